/-













-/
import Derived.Test.YtgjppekjkofdiaaGreatDoorH34
import Derived.Test.YtgjppekjkofdiaaGreatDoorH40
import Derived.Test.YtgjppekjkofdiaaGreatDoorH42
import Derived.Test.YtgjppekjkofdiaaGreatDoorH23
import Derived.Test.YtgjppekjkofdiaaGreatDoorH44
import Derived.RegionTactic
import Derived.Deep.RegionHeld3
import Derived.Test.YtgjppekjkofdiaaGreatDoorH41
import Derived.BigQuiet
import Derived.Test.YtgjppekjkofdiaaGreatDoorH20
import Derived.Test.YtgjppekjkofdiaaGreatDoorH01
import Derived.Test.YtgjppekjkofdiaaGreatDoorH26
import Derived.Test.YtgjppekjkofdiaaGreatDoorH45
namespace Go.Proofs.YtgjppekjkofdiaaGreatDoor
open Go.RowKit

theorem OkB.tsz {s : Bn} (ok : OkB s) : ∀ t ∈ s.orders, t.size ≤ 1000000 := fun t ht => by
  have h1 := (Bk.okT_iff.1 (List.all_eq_true.1 ok.okL t ht)).2.1
  have h2 : (dl t).length = t.size := (tx_len t).symm
  omega
theorem st_field (x0 x1 x2 x3 x4 x5 x6 : Value) (W : World) :
    (Instr.field 91 (.agg #[x0, x1, x2, x3, x4, x5, x6]) 3).run Tryz.prog W = .ok x3 W ∧ (Instr.field 91 (.agg #[x0, x1, x2, x3, x4, x5, x6]) 6).run Tryz.prog W = .ok x6 W ∧ (Instr.field 91 (.agg #[x0, x1, x2, x3, x4, x5, x6]) 2).run Tryz.prog W = .ok x2 W :=
  ⟨by kernel_rfl, by kernel_rfl, by kernel_rfl⟩
theorem st_out (V : V5) (s : Bn) : stCells V s = #[.slice V.pa s.progs.length V.pc, .slice V.ha s.hist.length V.hc, .slice V.ta s.tests.length V.tc, .slice V.la s.lk.length V.lc, .int .i64 s.fixes, .int .i64 s.checks, .slice V.oa s.orders.length V.oc] := rfl

set_option maxRecDepth 100000 in
set_option maxHeartbeats 4000000 in
theorem Locked_any (H : Nat → Bool) (B : Nat) (s : Bn) (w : World) (h : BnAt H B w s) (ok : OkB s) (R : Ending → World → Prop)
    (hR : ∀ w' v base, Grow w w' → w.heap.size ≤ base → w'.ownsRow base 3 1 v s.lk.length (s.lk.flatMap encI) → R (.returned v) w') :
    Calls Tryz.prog 40 #[.pointer (some ⟨B, 0, none⟩)] w R := by
  have HR := Lib.hid hR
  have HH := Lib.hid h
  have HLL := Lib.hid ok.lk8
  clear hR h ok
  go_enter Tryz.func40, Tryz.ntmps40
  go_wp2_with fail
  refine look_any H B s _ HH.out _ ?_
  intro w1 V hg1 hs1
  have HLK := Lib.hid hs1.unhide.lk
  have HG1 := Lib.hid hg1
  rw [st_out V s]
  have hfd := fun x0 x1 x2 x3 x4 x5 x6 W => (st_field x0 x1 x2 x3 x4 x5 x6 W).1
  clear hs1 hg1
  go_wp2_with fail
  refine clI_any s.lk _ _ HLK.out (by have := HLL.out; omega) _ ?_
  intro w2 v2 hg2 hv2
  have HF := Lib.hid (HR.out w2 v2 _ (HG1.out.trans hg2) HG1.out.sz hv2)
  clear hg2 hv2
  go_wp2_with fail
  exact HF.out

set_option maxRecDepth 100000 in
set_option maxHeartbeats 4000000 in
theorem Failing9_any (H : Nat → Bool) (B : Nat) (s : Bn) (w : World) (h : BnAt H B w s) (ok : OkB s) (R : Ending → World → Prop)
    (hR : ∀ w' v base, Grow w w' → w.heap.size ≤ base → OwnI base w' v (failB s.prog s.tests) → R (.returned v) w') :
    Calls Tryz.prog 22 #[.pointer (some ⟨B, 0, none⟩)] w R := by
  have HR := Lib.hid hR
  have HH := Lib.hid h
  have HPN := Lib.hid ok.pne
  clear hR h ok
  go_enter Tryz.func22, Tryz.ntmps22
  go_wp2_with fail
  refine look_any H B s _ HH.out _ ?_
  intro w1 V hg1 hs1
  have HS1 := Lib.hid hs1
  have HG1 := Lib.hid hg1
  clear hs1 hg1
  rw [st_out V s]
  go_upto_region 2 with fail
  obtain ⟨w2, hw2⟩ : ∃ z : World, z = w1.alloc (.cells (stCells V s) 91) := ⟨_, rfl⟩
  change Code.wp _ _ _ _ (w1.alloc (.cells (stCells V s) 91))
  have hg2 : Grow w1 w2 := by rw [hw2]; exact (Grow.refl w1).alloc _
  have hb2 : w2.heap[w1.heap.size]? = some (.cells (stCells V s) 91 (0, 0)) := by rw [hw2]; exact heap_alloc_new _ _
  rw [← hw2]
  obtain ⟨x, hx⟩ : ∃ z, w1.heap.size = z := ⟨_, rfl⟩
  rw [hx] at hb2 ⊢
  have HB2 := Lib.hid hb2
  have HG2 := Lib.hid (HG1.out.trans hg2)
  have HS2 := Lib.hid (HS1.out.grow (hg2.hid H))
  clear hw2 hg2 hb2 hx
  go_wp2_with fail
  refine wp_region_held_drew (S := fun X => Grow w2 X) (by kernel_rfl) ((Grow.refl w2).drew) (fun hH => ?_)
  refine wpAnyH_take (i := 0) (v := .agg #[.slice V.pa s.progs.length V.pc, .slice V.ha s.hist.length V.hc, .slice V.ta s.tests.length V.tc, .slice V.la s.lk.length V.lc, .int .i64 s.fixes, .int .i64 s.checks, .slice V.oa s.orders.length V.oc]) rfl (by kernel_rfl) (by kernel_rfl) (by kernel_rfl) (fun _ _ _ h => h) (Or.inl ⟨by rfl, ?_⟩) hH ?_
  · intro w9 hw9
    obtain ⟨c0, c1, c2, c3, c4, c5, c6⟩ := st_cells (Grow.blk hw9 HB2.out)
    go_simp
  try simp only [List.getElem_toArray, List.getElem_cons_zero, Act.put, List.setIfInBounds_toArray, List.set_cons_zero, List.set_cons_succ]
  refine wpAnyH_take (i := 1) (v := .agg #[.slice V.pa s.progs.length V.pc, .slice V.ha s.hist.length V.hc, .slice V.ta s.tests.length V.tc, .slice V.la s.lk.length V.lc, .int .i64 s.fixes, .int .i64 s.checks, .slice V.oa s.orders.length V.oc]) rfl (by kernel_rfl) (by kernel_rfl) (by kernel_rfl) (fun _ _ _ h => h) (Or.inl ⟨by rfl, ?_⟩) hH ?_
  · intro w9 hw9
    obtain ⟨c0, c1, c2, c3, c4, c5, c6⟩ := st_cells (Grow.blk hw9 HB2.out)
    go_simp
  try simp only [List.getElem_toArray, List.getElem_cons_succ, List.getElem_cons_zero, Act.put, List.setIfInBounds_toArray, List.set_cons_zero, List.set_cons_succ]
  refine wpAnyH_ready (rs := [2]) (by kernel_rfl) (by simp) ?_
  refine AllReadyH.cons rfl (fun K hK => ?_) AllReadyH.nil
  go_simp
  refine program_any H V s _ (HS2.out.grow (hH.hid H)) HPN.out _ ?_
  intro w3 pv hg3 hpv
  have HPV := Lib.hid hpv.unhide
  go_wp2_with fail
  refine hK.out _ _ (hH.trans hg3) (fun hH2 => ?_)
  clear hK K hH
  have hH := hH2
  clear hH2
  try simp only [List.getElem_toArray, List.getElem_cons_succ, List.getElem_cons_zero, Act.put, List.setIfInBounds_toArray, List.set_cons_zero, List.set_cons_succ]
  clear hg3 hpv
  refine wpAnyH_ready (rs := [3]) (by kernel_rfl) (by simp) ?_
  refine AllReadyH.cons rfl (fun K hK => ?_) AllReadyH.nil
  go_simp
  refine bfailing_any H s.prog pv V s _ HPV.out (HS2.out.grow (hH.hid H)) _ ?_
  intro w4 x4 hg4 hx4
  have HX4 := Lib.hid (hx4.mono hH.sz)
  go_wp2_with fail
  refine hK.out _ _ (hH.trans hg4) (fun hH2 => ?_)
  clear hK K hH
  have hH := hH2
  clear hH2
  try simp only [List.getElem_toArray, List.getElem_cons_succ, List.getElem_cons_zero, Act.put, List.setIfInBounds_toArray, List.set_cons_zero, List.set_cons_succ]
  clear hg4 hx4
  refine wpAnyH_take (i := 4) (v := x4) rfl (by kernel_rfl) (by kernel_rfl) (by kernel_rfl) (fun _ _ _ h => h) (Or.inl ⟨by rfl, ?_⟩) hH ?_
  · intro w9 hw9
    go_simp
  try simp only [List.getElem_toArray, List.getElem_cons_succ, List.getElem_cons_zero, Act.put, List.setIfInBounds_toArray, List.set_cons_zero, List.set_cons_succ]
  refine wpAnyH_done (by kernel_rfl) ?_ _
  have HF := Lib.hid (HR.out _ x4 _ (HG2.out.trans hH) HG2.out.sz HX4.out)
  clear hH
  go_wp2_with fail
  exact HF.out

set_option maxRecDepth 100000 in
set_option maxHeartbeats 4000000 in
theorem Counts_any (H : Nat → Bool) (B : Nat) (s : Bn) (w : World) (h : BnAt H B w s) (R : Ending → World → Prop)
    (hR : ∀ w', Grow w w' → R (.returned (.tuple #[.int .i64 s.fixes, .int .i64 s.checks])) w') :
    Calls Tryz.prog 19 #[.pointer (some ⟨B, 0, none⟩)] w R := by
  have HR := Lib.hid hR
  have HH := Lib.hid h
  clear hR h
  go_enter Tryz.func19, Tryz.ntmps19
  go_wp2_with fail
  refine look_any H B s _ HH.out _ ?_
  intro w1 V hg1 hs1
  have HG1 := Lib.hid hg1
  clear hs1 hg1
  rw [st_out V s]
  go_upto_region 2 with fail
  obtain ⟨w2, hw2⟩ : ∃ z : World, z = w1.alloc (.cells (stCells V s) 91) := ⟨_, rfl⟩
  change Code.wp _ _ _ _ (w1.alloc (.cells (stCells V s) 91))
  have hg2 : Grow w1 w2 := by rw [hw2]; exact (Grow.refl w1).alloc _
  have hb2 : w2.heap[w1.heap.size]? = some (.cells (stCells V s) 91 (0, 0)) := by rw [hw2]; exact heap_alloc_new _ _
  rw [← hw2]
  obtain ⟨x, hx⟩ : ∃ z, w1.heap.size = z := ⟨_, rfl⟩
  rw [hx] at hb2 ⊢
  have HG2 := Lib.hid (HG1.out.trans hg2)
  obtain ⟨c0, c1, c2, c3, c4, c5, c6⟩ := st_cells hb2
  have HF := Lib.hid (fun W (g : Grow w2 W) => HR.out W (HG2.out.trans g))
  clear hw2 hg2 hb2 hx
  go_wp2_with (go_quiet (fail))
  exact HF.out _ ((Grow.refl _).drewN _)

set_option maxRecDepth 100000 in
set_option maxHeartbeats 4000000 in
theorem Book_any (H : Nat → Bool) (B : Nat) (s : Bn) (w : World) (hg : Glob w) (h : BnAt H B w s) (ok : OkB s) (R : Ending → World → Prop)
    (hR : ∀ w', Grow w w' → R (.returned (.string (tb (bkS s.orders)))) w') :
    Calls Tryz.prog 26 #[.pointer (some ⟨B, 0, none⟩)] w R := by
  have HR := Lib.hid hR
  have HG := Lib.hid hg
  have HH := Lib.hid h
  have HSZ := Lib.hid ok.tsz
  have HOL := Lib.hid ok.ord
  clear hR hg h ok
  go_enter Tryz.func26, Tryz.ntmps26
  go_wp2_with fail
  refine look_any H B s _ HH.out _ ?_
  intro w1 V hg1 hs1
  have HOD := Lib.hid hs1.unhide.od
  have HG1 := Lib.hid hg1
  rw [st_out V s]
  have hfd := fun x0 x1 x2 x3 x4 x5 x6 W => (st_field x0 x1 x2 x3 x4 x5 x6 W).2.1
  clear hs1 hg1
  go_wp2_with fail
  refine write_any s.orders _ _ (HG.out.grow HG1.out) HOD.out HSZ.out (by have := HOL.out; omega) _ ?_
  intro w2 hg2
  have HF := Lib.hid (HR.out w2 (HG1.out.trans hg2))
  clear hg2
  go_wp2_with fail
  exact HF.out
end Go.Proofs.YtgjppekjkofdiaaGreatDoor

namespace Go.Proofs.YtgjppekjkofdiaaGreatDoor
open Go.RowKit

theorem row_chg {base : Nat} {T : TypeId} {k n : Nat} {w w' : World} {v : Value} {l : List Value} {B : Nat} (h : w.ownsRow base T k v n l) (c : Chg B w w') (hB : B < base) : w'.ownsRow base T k v n l := by
  obtain ⟨h1, h2⟩ := h
  refine ⟨h1, h2.imp id ?_⟩
  rintro ⟨g, cap, cur, a, b, d, e⟩
  exact ⟨g, cap, cur, a, b, c.blk (by omega) d, e⟩
theorem Chg.slc {α : Type} {k : Nat} {enc : α → List Value} {w w' : World} {v : Value} {xs : List α} {B : Nat} (c : Chg B w w') (h : SlcAt k enc w v xs) (hB : ∀ a n m, v = .slice (some a) n m → a.block ≠ B) : SlcAt k enc w' v xs :=
  ((SlcAt.hide h (H := fun k => k == B) fun _ _ n m e => .inl (beq_eq_false_iff_ne.2 (hB _ n m e))).grow c).unhide
theorem BnAt.more {H : Nat → Bool} {B N : Nat} {w w' : World} {s s2 : Bn} (h : BnAt H B w s) (g : Grow w w') (hN : w.heap.size ≤ N) (h2 : BnAt (fun k => k == N) N w' s2) : BnAt (hidN H N) B w' s := by
  obtain ⟨V, hb, hs⟩ := h.blk
  have hNl := h2.hid.bd N (by simp)
  refine ⟨⟨by unfold hidN; rw [h.hid.hH]; rfl, fun k hk => ?_⟩, V, g.blk hb, hs.grow (g.hidN hN)⟩
  unfold hidN at hk
  rw [Bool.or_eq_true] at hk
  rcases hk with hk | hk
  · exact Nat.lt_of_lt_of_le (h.hid.bd k hk) g.sz
  · have := beq_iff_eq.1 hk; omega
theorem BnAt.other {H : Nat → Bool} {B N : Nat} {w w' : World} {s : Bn} (h : BnAt H B w s) (c : Chg N w w') (hN : N ≠ B) (hH : H N = true) : BnAt H B w' s := h.chg c hN hH
theorem BnAt.only {H : Nat → Bool} {B : Nat} {w : World} {s : Bn} (h : BnAt H B w s) : BnAt (fun k => k == B) B w s := by
  obtain ⟨V, hb, hs⟩ := h.blk
  refine ⟨⟨by simp, fun k hk => by obtain rfl := beq_iff_eq.1 hk; exact h.hid.bd _ h.hid.hH⟩, V, hb, ?_⟩
  have e : hideW H w = hideW H (hideW (fun k => k == B) w) := by
    rw [hide_hide]
    congr 1
    funext k
    by_cases hk : k = B
    · subst hk; rw [h.hid.hH]; simp
    · rw [show (k == B) = false by simpa using hk, Bool.false_or]
  rw [e] at hs
  exact hs.unhide
theorem BnAt.row {H : Nat → Bool} {B : Nat} {w w' : World} {s : Bn} {v v' : Value} (h : BnAt H B w s) (hv : ∀ b, v.ownBlock = some b → H b = true ∧ b ≠ B) (hgr : w.grownBy w' v.ownBlock) (hlt : ∀ b, v'.ownBlock = some b → b < w'.heap.size) (hat : v'.ownBlock = v.ownBlock ∨ v'.ownBlock = some w.heap.size) :
    ∃ H', BnAt H' B w' s ∧ ∀ b, v'.ownBlock = some b → H' b = true ∧ b ≠ B := by
  obtain ⟨V, hb, hs⟩ := h.blk
  have hBl := h.hid.bd B h.hid.hH
  have hb' : w'.heap[B]? = some (.cells (bnCells V s) 93 (0, 0)) := by
    rw [hgr.block B hBl (fun e => (hv B e.symm).2 rfl)]; exact hb
  have hsz := hgr.size
  have g : ∀ H' : Nat → Bool, (∀ k, k < w.heap.size → H' k = H k) → Grow (hideW H w) (hideW H' w') := fun H' hH' => by
    refine ⟨hgr.os, hgr.tape, hgr.output, by rw [hide_size, hide_size]; exact hsz, fun k hk => ?_⟩
    rw [hide_size] at hk
    rw [hide_heap, hide_heap, hH' k hk]
    by_cases hne : some k ≠ v.ownBlock
    · rw [hgr.block k hk hne]
    · have hk2 : H k = true := (hv k (Classical.not_not.1 hne).symm).1
      rw [hk2, Array.getElem?_eq_getElem hk, Array.getElem?_eq_getElem (Nat.lt_of_lt_of_le hk hsz)]; rfl
  refine ⟨fun k => H k || (v'.ownBlock == some k), ⟨⟨by rw [h.hid.hH]; rfl, fun k hk => ?_⟩, V, hb', hs.grow (g _ fun k hk => ?_)⟩, fun b hb2 => ⟨by rw [hb2]; simp, ?_⟩⟩
  · rw [Bool.or_eq_true] at hk
    rcases hk with hk | hk
    · exact Nat.lt_of_lt_of_le (h.hid.bd k hk) hsz
    · exact hlt k (beq_iff_eq.1 hk)
  · cases hh : H k with
    | true => rfl
    | false =>
      show (false || (v'.ownBlock == some k)) = false
      rw [Bool.false_or, beq_eq_false_iff_ne]
      intro e
      rcases hat with h1 | h1
      · rw [h1] at e; rw [(hv k e).1] at hh; cases hh
      · rw [h1] at e; have := Option.some.inj e; omega
  · rcases hat with h1 | h1
    · rw [h1] at hb2; exact (hv b hb2).2
    · rw [h1] at hb2; have := Option.some.inj hb2; omega
end Go.Proofs.YtgjppekjkofdiaaGreatDoor

namespace Go.Proofs.YtgjppekjkofdiaaGreatDoor
open Go.RowKit

theorem sn_sum : Bk.sumL 0 (dl Sn.o1) = 821069 := by kernel_rfl
theorem sn_book : bkS [Sn.o1] = [56, 50, 49, 48, 54, 57, 32, 99, 104, 101, 99, 107, 10] := by
  unfold bkS
  show Bk.lineL (Bk.sumL 0 (dl Sn.o1)) (dl Sn.o1) ++ [] = _
  rw [sn_sum]
  unfold Bk.lineL
  simp [Lib.itoa, Lib.decDigits, dl, Sn.o1]
end Go.Proofs.YtgjppekjkofdiaaGreatDoor

namespace Go.Proofs.YtgjppekjkofdiaaGreatDoor
open Go.RowKit

theorem map_tb_dl (l : List ByteArray) : (l.map dl).map tb = l := by
  rw [List.map_map]
  have : (tb ∘ dl) = id := by funext t; exact tb_of t
  rw [this, List.map_id]
theorem book_read {l : List ByteArray} (hok : okL l = true) (hl : l.length ≤ 80) : Bk.readL 80 0 (tb (bkS l)).data.toList = (l.map dl, []) := by
  rw [tb_data]
  refine Bk.readL_book (l.map dl) 80 0 ?_ (by rw [List.length_map]; exact hl)
  intro t ht
  obtain ⟨u, hu, rfl⟩ := List.mem_map.1 ht
  exact List.all_eq_true.1 hok u hu
theorem keep_bd (n : Int) (L : Nat) (hL : L ≤ 1000000000) : ∃ m : Nat, wrap64 ((IntKind.u64.wrap n).tmod ((L : Int) + 1)) = (m : Int) ∧ m ≤ L := by
  have hu : 0 ≤ IntKind.u64.wrap n := by
    unfold IntKind.wrap
    simp [IntKind.signed, IntKind.bits]
    omega
  have h1 := Int.tmod_nonneg ((L : Int) + 1) hu
  have h2 := Int.tmod_lt_of_pos (IntKind.u64.wrap n) (show (0 : Int) < (L : Int) + 1 by omega)
  refine ⟨((IntKind.u64.wrap n).tmod ((L : Int) + 1)).toNat, ?_, by omega⟩
  rw [IntWalk.wrap64_in _ (by omega)]
  omega
end Go.Proofs.YtgjppekjkofdiaaGreatDoor

namespace Go.Proofs.YtgjppekjkofdiaaGreatDoor
open Go.RowKit

noncomputable def stopB (s : Bn) : List ByteArray → Option (Nat × Int)
  | [] => none
  | t :: r => if (doB s t).1 ≠ 0 then some (0, (doB s t).1) else (stopB (doB s t).2 r).map fun q => (q.1 + 1, q.2)
noncomputable def ordB (t : ByteArray) : List ByteArray := (Bk.readL 80 0 t.data.toList).1.map tb
noncomputable def repB (p : List Ln) (t : ByteArray) : Option Bn × Int × Int :=
  if valP p ≠ 0 then (none, 0, valP p)
  else if (Bk.readL 80 0 t.data.toList).2 ≠ [] then (none, 0, 10)
  else match stopB (newB p) (ordB t) with
    | some q => (none, (q.1 : Nat), q.2)
    | none => (some (dosB (newB p) (ordB t)), ((ordB t).length : Nat), 0)
theorem stop_hit : ∀ {l : List ByteArray} {s : Bn} {k : Nat} {t : ByteArray}, stopB s (l.take k) = none → l[k]? = some t → (doB (dosB s (l.take k)) t).1 ≠ 0 → stopB s l = some (k, (doB (dosB s (l.take k)) t).1)
  | [], _, _, _, _, h, _ => by simp at h
  | a :: l, s, 0, t, _, h, hne => by
    simp at h; subst h
    have hne' : (doB s a).1 ≠ 0 := hne
    unfold stopB
    rw [if_pos hne']
    rfl
  | a :: l, s, k + 1, t, h1, h2, h3 => by
    rw [List.take_succ_cons] at h1 h3 ⊢
    unfold stopB at h1 ⊢
    by_cases ha : (doB s a).1 ≠ 0
    · rw [if_pos ha] at h1; cases h1
    · rw [if_neg ha] at h1 ⊢
      have h4 : stopB (doB s a).2 (l.take k) = none := by
        cases h : stopB (doB s a).2 (l.take k) with
        | none => rfl
        | some q => rw [h] at h1; cases h1
      rw [stop_hit h4 (by simpa using h2) h3]
      rfl
theorem stop_on : ∀ {l : List ByteArray} {s : Bn} {k : Nat} {t : ByteArray}, stopB s (l.take k) = none → l[k]? = some t → (doB (dosB s (l.take k)) t).1 = 0 → stopB s (l.take (k + 1)) = none
  | [], _, _, _, _, h, _ => by simp at h
  | a :: l, s, 0, t, _, h, hne => by
    simp at h; subst h
    have hne' : (doB s a).1 = 0 := hne
    rw [List.take_succ_cons, List.take_zero]
    unfold stopB stopB
    rw [if_neg (by rw [hne']; simp)]; rfl
  | a :: l, s, k + 1, t, h1, h2, h3 => by
    rw [List.take_succ_cons] at h1 h3 ⊢
    unfold stopB at h1 ⊢
    by_cases ha : (doB s a).1 ≠ 0
    · rw [if_pos ha] at h1; cases h1
    · rw [if_neg ha] at h1 ⊢
      have h4 : stopB (doB s a).2 (l.take k) = none := by
        cases h : stopB (doB s a).2 (l.take k) with
        | none => rfl
        | some q => rw [h] at h1; cases h1
      rw [stop_on h4 (by simpa using h2) h3]; rfl
theorem dos_snoc {l : List ByteArray} {s : Bn} {k : Nat} {t : ByteArray} (h : l[k]? = some t) : dosB s (l.take (k + 1)) = (doB (dosB s (l.take k)) t).2 := by
  rw [List.take_add_one, h, Option.toList_some, dosB_append]; rfl
theorem read_bd {b : List UInt8} {t : List UInt8} (h : t ∈ (Bk.readL 80 0 b).1) : t.length ≤ 30 := (Bk.okT_iff.1 ((Bk.readL_eq 80 0 b).2.1 t h)).2.1

set_option maxRecDepth 100000 in
set_option maxHeartbeats 8000000 in
theorem Replay_any (p : List Ln) (v : Value) (t : ByteArray) (w : World) (hg : Glob w) (hp : LinesAt w v p) (hn : p.length < 10000000000) (ht : t.size ≤ 1000000000) (R : Ending → World → Prop)
    (hno : ∀ n e, repB p t = (none, n, e) → ∀ w', Grow w w' → R (.returned (.tuple #[.pointer none, .int .i64 n, .int .i64 e])) w')
    (hok : ∀ s n e, repB p t = (some s, n, e) → ∀ w' B, Grow w w' → w.heap.size ≤ B → BnAt (fun k => k == B) B w' s → OkB s → R (.returned (.tuple #[.pointer (some ⟨B, 0, none⟩), .int .i64 n, .int .i64 e])) w') :
    Calls Tryz.prog 31 #[v, .string t] w R := by
  have HNO := Lib.hid hno
  have HOK := Lib.hid hok
  have HP := Lib.hid hp
  have HG := Lib.hid hg
  have hwz := hg.size
  clear hno hok hp hg
  go_enter Tryz.func31, Tryz.ntmps31
  go_wp2_with fail
  refine New_any p v _ HP.out hn _ ?_ ?_
  · intro h0 w1 hg1
    have HF := Lib.hid (HNO.out 0 (valP p) (by unfold repB; rw [if_pos h0]) w1 hg1)
    have hz : (valP p != 0) = true := by simpa using h0
    obtain ⟨e, he⟩ : ∃ e, valP p = e := ⟨_, rfl⟩
    rw [he] at HF hz h0 ⊢
    clear he hg1
    go_wp2_with fail
    first | exact HF.out | exact bodyPost_ret (by simp [results, Tryz.results31, go_sem]) rfl HF.out
  · intro h0 w1 B hg1 hB hb
    have HG1 := Lib.hid hg1
    have HB := Lib.hid hb
    have H0 := Lib.hid h0
    have hBl := hb.hid.bd B (by simp)
    clear hg1 hb h0
    go_wp2_with fail
    refine Read_any t ht _ (HG.out.grow HG1.out) _ ?_
    intro w2 rv hg2 ho2
    obtain ⟨M, hM⟩ : ∃ M, Bk.readL 80 0 t.data.toList = M := ⟨_, rfl⟩
    have hrb : ∀ u ∈ M.1, u.length ≤ 30 := fun u hu => read_bd (by rw [hM]; exact hu)
    have hrl : M.1.length ≤ 80 := by rw [← hM]; exact read_len80 _ _ _
    have hrep : repB p t = (if M.2 ≠ [] then (none, 0, 10) else match stopB (newB p) (M.1.map tb) with
      | some q => (none, (q.1 : Nat), q.2)
      | none => (some (dosB (newB p) (M.1.map tb)), ((M.1.map tb).length : Nat), 0) : Option Bn × Int × Int) := by
      unfold repB ordB; rw [if_neg (by rw [H0.out]; simp), hM]
    rw [hM] at ho2 ⊢
    rw [hrep] at HNO HOK
    clear hM hrep
    obtain ⟨q, r⟩ := M
    dsimp only at ho2 hrb hrl HNO HOK ⊢
    obtain ⟨l, hl⟩ : ∃ l, q.map tb = l := ⟨_, rfl⟩
    have hln : l.length ≤ 80 := by rw [← hl, List.length_map]; exact hrl
    have hlb : ∀ u ∈ l, u.size < 4294967281 := by
      intro u hu
      rw [← hl] at hu
      obtain ⟨z, hz, rfl⟩ := List.mem_map.1 hu
      rw [tb_size]
      have := hrb z hz
      omega
    rw [hl] at ho2 HNO HOK
    have HLB := Lib.hid hlb
    clear hl hrb hrl hlb
    have hhid := (slc_of_owns encTx_len ho2).hide_new (NewS.of_own (show Own 1 encTx _ w2 rv l from ⟨_, ho2⟩)) (H := fun k => k == B) (fun b hb => by rw [beq_eq_false_iff_ne]; omega)
    obtain ⟨ra, rc, rfl, r1, r2, jk⟩ := slc_of_owns encTx_len ho2
    have HT := Lib.hid hhid
    have HG2 := Lib.hid (HG1.out.trans hg2)
    have HB2 := Lib.hid (HB.out.grow hg2)
    have hB4 : 4 < B := by omega
    clear ho2 jk hhid hg2 HB
    by_cases hr : r = []
    rotate_left
    · have HF := Lib.hid (HNO.out 0 10 (by rw [if_pos hr]) w2 HG2.out)
      have hrb := tb_nel hr
      have hrc : ((tb r).toList == []) = false := beq_eq_false_iff_ne.2 hrb
      go_wp2_with fail
      all_goals first | exact HF.out | exact bodyPost_ret (by simp [results, Tryz.results31, go_sem]) rfl HF.out
    subst hr
    rw [if_neg (by simp)] at HNO HOK
    have hrn := tb_nil
    have hnb : OkB (newB p) := OkB.new H0.out
    have HNB := Lib.hid hnb
    clear hnb
    go_wp2_with fail
    go_loopw [31] (fun s31 wr => ∃ k : Nat, k ≤ l.length ∧ s31 = .int .i64 k ∧ Chg B w2 wr ∧ BnAt (fun k => k == B) B wr (dosB (newB p) (l.take k)) ∧ stopB (newB p) (l.take k) = none) (fun s31 _ => l.length - (intOf s31).toNat)
    case atStart => exact ⟨0, Nat.zero_le _, rfl, chg_refl B w2, HB2.out, rfl⟩
    case round =>
      obtain ⟨k, hk, rfl, hc, hbn, hst⟩ := hrel
      have HC := Lib.hid hc
      have HBN := Lib.hid hbn
      have HST := Lib.hid hst
      have hgw : Grow w wr := chg_grow HG2.out hc (by omega)
      have HGW := Lib.hid hgw
      clear hc hbn hst hgw
      by_cases hlt : k < l.length
      · have hltz : (k : Int) < (l.length : Int) := by omega
        obtain ⟨u, hu⟩ : ∃ u, l[k]? = some u := ⟨_, List.getElem?_eq_getElem hlt⟩
        obtain ⟨b, o, rfl, hbl, y0⟩ := texts_at (show TextsAt wr _ l from (HT.out.grow HC.out).unhide) hu
        have hus := HLB.out u (List.mem_of_getElem? hu)
        have HU := Lib.hid hu
        clear hu
        go_wp2_with fail
        refine bDo_any (fun k => k == B) B u hus (dosB (newB p) (l.take k)) _ (HG.out.grow HGW.out) HBN.out (HNB.out.dos _) hB4 _ ?_
        intro w5 hc5 hb5
        obtain ⟨e, he⟩ : ∃ e, (doB (dosB (newB p) (l.take k)) u).1 = e := ⟨_, rfl⟩
        have HE := Lib.hid he
        have HC5 := Lib.hid (HC.out.trans hc5)
        have HB5 := Lib.hid hb5
        have hgw5 : Grow w w5 := chg_grow HG2.out HC5.out (by omega)
        rw [he]
        by_cases h0 : e = 0
        · subst h0
          have hs2 := stop_on HST.out HU.out HE.out
          have HS2 := Lib.hid hs2
          clear he hc5 hb5 hs2 hgw5
          go_wp2_with fail
          go_roundw
          case rel => exact ⟨k + 1, by omega, by go_num, HC5.out, by rw [dos_snoc HU.out]; exact HB5.out, HS2.out⟩
          case measure => simp [intOf]; omega
        · have hz : (e != 0) = true := by simpa using h0
          have hs2 := stop_hit HST.out HU.out (by rw [HE.out]; exact h0)
          rw [HE.out] at hs2
          have HF := Lib.hid (HNO.out k e (by rw [hs2]) w5 hgw5)
          clear he hc5 hb5 hs2 hgw5
          go_wp2_with fail
          first | exact HF.out | exact bodyPost_ret (by simp [results, Tryz.results31, go_sem]) rfl HF.out
      · obtain rfl : k = l.length := by omega
        have hltz : ¬ (l.length : Int) < (l.length : Int) := by omega
        have hst := HST.out
        have hbn := HBN.out
        rw [List.take_length] at hst hbn
        have HF := Lib.hid (HOK.out (dosB (newB p) l) l.length 0 (by rw [hst]) wr B HGW.out (by omega) hbn (HNB.out.dos _))
        clear hst hbn
        go_wp2_with fail
        first | exact HF.out | exact bodyPost_ret (by simp [results, Tryz.results31, go_sem]) rfl HF.out
end Go.Proofs.YtgjppekjkofdiaaGreatDoor

namespace Go.Proofs.YtgjppekjkofdiaaGreatDoor
open Go.RowKit

theorem head_repair (s : Bn) (x : List Ed) (h : 0 < s.progs.length) : (repairB s x).2.progs[0]? = s.progs[0]? := by
  unfold repairB
  repeat' split
  all_goals first | rfl | exact List.getElem?_append_left h
theorem head_exec {s : Bn} (ok : OkB s) (k : Nat) (l : List Int) : (execB s k l).2.progs[0]? = s.progs[0]? := by
  have h : 0 < s.progs.length := by rw [ok.len]; omega
  have hr := fun x => head_repair s x h
  unfold execB putB undoB testB forgetB lockB fixBn verifyB
  repeat' split
  all_goals first
    | rfl
    | exact hr _
    | (show (s.progs.take s.hist.length)[0]? = _
       rw [List.getElem?_take, if_pos (by omega)])
theorem head_do {s : Bn} (ok : OkB s) (t : ByteArray) : (doB s t).2.progs[0]? = s.progs[0]? := by
  unfold doB
  repeat' split
  all_goals first | rfl | exact head_exec ok _ _
theorem head_dos {s : Bn} (ok : OkB s) : ∀ l, (dosB s l).progs[0]? = s.progs[0]?
  | [] => rfl
  | t :: r => (head_dos (ok.do t) r).trans (head_do ok t)
theorem RepB.head {p : List Ln} {s : Bn} (h : RepB p s) (hp : valP p = 0) : s.progs[0]? = some p := by
  rw [← h.1, head_dos (OkB.new hp)]; rfl
theorem RepB.val {p : List Ln} {s : Bn} (ok : OkB s) (h : s.progs[0]? = some p) : valP p = 0 := ok.val p (List.mem_of_getElem? h)
theorem RepB.stop {p : List Ln} {s : Bn} (h : RepB p s) : ∀ k, k ≤ s.orders.length → stopB (newB p) (s.orders.take k) = none
  | 0, _ => rfl
  | k + 1, hk => by
    obtain ⟨t, ht⟩ : ∃ t, s.orders[k]? = some t := ⟨_, List.getElem?_eq_getElem (by omega)⟩
    exact stop_on (h.stop k (by omega)) ht (h.2 k t ht)
theorem RepB.book {p : List Ln} {s : Bn} (ok : OkB s) (h : RepB p s) (hp : valP p = 0) : repB p (tb (bkS s.orders)) = (some s, ((s.orders.length : Nat) : Int), (0 : Int)) := by
  unfold repB ordB
  rw [if_neg (by rw [hp]; simp), book_read ok.okL ok.ord]
  dsimp only
  rw [if_neg (by simp), map_tb_dl]
  have := h.stop s.orders.length (Nat.le_refl _)
  rw [List.take_length] at this
  rw [this, h.1]
set_option maxRecDepth 100000 in
set_option maxHeartbeats 16000000 in
theorem Audit_any (H : Nat → Bool) (B : Nat) (s : Bn) (p : List Ln) (w : World) (hg : Glob w) (h : BnAt H B w s) (ok : OkB s) (rep : RepB p s) (hp : valP p = 0) (R : Ending → World → Prop) (hR : ∀ w', Grow w w' → R (.returned (.bool true)) w') :
    Calls Tryz.prog 34 #[.pointer (some ⟨B, 0, none⟩)] w R := by
  have HR := Lib.hid hR
  have HG := Lib.hid hg
  have HH := Lib.hid h
  have HOK := Lib.hid ok
  have HBK := Lib.hid (rep.book ok hp)
  have HHD := Lib.hid (rep.head hp)
  have HPV := Lib.hid hp
  clear hR hg h ok rep hp
  go_enter Tryz.func34, Tryz.ntmps34
  go_wp2_with fail
  refine look_any H B s _ HH.out _ ?_
  intro w1 V hg1 hs1
  have HG1 := Lib.hid hg1
  have HS1 := Lib.hid hs1
  clear hg1 hs1
  have hc : stCells V s = #[.slice V.pa s.progs.length V.pc, .slice V.ha s.hist.length V.hc, .slice V.ta s.tests.length V.tc, .slice V.la s.lk.length V.lc, .int .i64 s.fixes, .int .i64 s.checks, .slice V.oa s.orders.length V.oc] := rfl
  rw [hc]
  go_upto_region 4 with fail
  obtain ⟨w2, hw2⟩ : ∃ z : World, z = w1.alloc (.cells (stCells V s) 91) := ⟨_, rfl⟩
  change Code.wp _ _ _ _ (w1.alloc (.cells (stCells V s) 91))
  have hg2 : Grow w1 w2 := by rw [hw2]; exact (Grow.refl w1).alloc _
  have hb2 : w2.heap[w1.heap.size]? = some (.cells (stCells V s) 91 (0, 0)) := by rw [hw2]; exact heap_alloc_new _ _
  rw [← hw2]
  obtain ⟨x, hx⟩ : ∃ z, w1.heap.size = z := ⟨_, rfl⟩
  rw [hx] at hb2 ⊢
  have hs2 := HS1.out.grow (hg2.hid H)
  obtain ⟨L, hL, hLx⟩ := hs2.unhide.pr
  obtain ⟨M, hM, hMx⟩ := hs2.unhide.hi
  have hlp : 0 < s.progs.length := by rw [HOK.out.len]; omega
  obtain ⟨t0, ht0, ht0x⟩ : ∃ t, L[0]? = some t ∧ t.x = p := by
    have h1 : L[0]?.map Lo.x = some p := by rw [← List.getElem?_map, hLx]; exact HHD.out
    cases h2 : L[0]? with
    | none => rw [h2] at h1; cases h1
    | some t => rw [h2] at h1; exact ⟨t, rfl, Option.some.inj h1⟩
  obtain ⟨pb, po, hpa, hpl, y0⟩ := lo_at hL.at_ ht0
  rw [Nat.add_zero] at y0
  have HP0 := Lib.hid (show LinesAt w2 t0.v p by rw [← ht0x]; exact hL.ins t0 (List.mem_of_getElem? ht0))
  have hLl : L.length = s.progs.length := by rw [← hLx]; simp
  have hMl : M.length = s.hist.length := by rw [← hMx]; simp
  obtain ⟨d0, d1, d2, d3, d4, d5, d6⟩ := st_cells hb2
  rw [hpa] at d0
  have HB2 := Lib.hid hb2
  have HS2 := Lib.hid hs2
  have HM := Lib.hid hM
  have HMX := Lib.hid hMx
  have HG2 := Lib.hid (HG1.out.trans hg2)
  have HPA := Lib.hid hpa
  have HY0 := Lib.hid y0
  have hplz : (0 : Int) < (s.progs.length : Int) := by omega
  clear hw2 hg2 hb2 hs2 hL hLx hM hMx ht0 hx HS1 HG1 hpa
  go_wp2_with fail
  go_loopw [4, 23] (fun s4 s23 wr => ∃ (k : Nat) (pk : List Ln), k ≤ s.hist.length ∧ s23 = .int .i64 k ∧ s.progs[k]? = some pk ∧ LinesAt wr s4 pk ∧ Grow w2 wr) (fun _ s23 _ => s.hist.length - (intOf s23).toNat)
  case atStart => exact ⟨0, p, Nat.zero_le _, rfl, HHD.out, HP0.out, Grow.refl w2⟩
  case round =>
    obtain ⟨k, pk, hk, rfl, hpk, hlpk, hg⟩ := hrel
    have HGR := Lib.hid hg
    have HLP := Lib.hid hlpk
    have HPK := Lib.hid hpk
    clear hg hlpk hpk d0 d1 d2 d3 d4 d5 d6 y0
    by_cases hlt : k < s.hist.length
    · have hltz : (k : Int) < (s.hist.length : Int) := by omega
      obtain ⟨tm, htm⟩ : ∃ t, M[k]? = some t := ⟨_, List.getElem?_eq_getElem (by omega)⟩
      obtain ⟨mb, mo, hha, hmb, m0⟩ := lo_at (HM.out.grow HGR.out).at_ htm
      have hxk : s.hist[k]? = some tm.x := by rw [← HMX.out, List.getElem?_map, htm]; rfl
      obtain ⟨q, hq⟩ : ∃ q, s.progs[k + 1]? = some q := ⟨_, List.getElem?_eq_getElem (by rw [HOK.out.len]; omega)⟩
      obtain ⟨hch, hqe⟩ := HOK.out.step k pk tm.x q HPK.out hxk hq
      have hk8 : k < 8 := by have := HOK.out.h8; omega
      have HMI := Lib.hid ((HM.out.grow HGR.out).ins tm (List.mem_of_getElem? htm))
      have HQ := Lib.hid hq
      have HCH := Lib.hid hch
      have HQE := Lib.hid hqe
      rw [hha]
      clear hq hch hqe hxk htm hha
      go_wp2_with fail
      refine Do_any pk tm.x _ _ _ HLP.out HMI.out _ ?_
      intro w5 v5 hg5 _ hl5
      rw [HCH.out] at hl5 ⊢
      rw [if_pos rfl, ← HQE.out] at hl5
      have HL5 := Lib.hid hl5
      have HG5 := Lib.hid (HGR.out.trans hg5)
      clear hl5 hg5
      go_wp2_with fail
      go_roundw
      case rel => exact ⟨k + 1, q, by omega, by go_num, HQ.out, HL5.out, HG5.out⟩
      case measure => simp [intOf]; omega
    · obtain rfl : k = s.hist.length := by omega
      have hltz : ¬ (s.hist.length : Int) < (s.hist.length : Int) := by omega
      obtain rfl : pk = s.prog := Option.some.inj (HPK.out.symm.trans HOK.out.ne)
      have HSW := Lib.hid (HS2.out.grow (HGR.out.hid H))
      obtain ⟨c0, c1, c2, c3, c4, c5, c6⟩ := st_cells (HGR.out.blk HB2.out)
      go_wp2_with fail
      refine program_any H V s _ HSW.out HOK.out.pne _ ?_
      intro w6 pv hg6 hpv
      have HG6 := Lib.hid (HGR.out.trans hg6)
      have HPV2 := Lib.hid hpv.unhide
      have HLP6 := Lib.hid (HLP.out.grow hg6)
      clear hg6 hpv c0 c1 c2 c3 c4 c5 c6
      go_wp2_with fail
      refine eqL_any s.prog _ _ _ HLP6.out HPV2.out _ ?_
      intro w7 hg7
      have HG7 := Lib.hid (HG6.out.trans hg7)
      have HLP7 := Lib.hid (HLP6.out.grow hg7)
      obtain ⟨c0, c1, c2, c3, c4, c5, c6⟩ := st_cells (HG7.out.blk HB2.out)
      clear hg7
      go_wp2_with fail
      refine breaks_any H s.prog _ V s _ HLP7.out (HS2.out.grow (HG7.out.hid H)) _ ?_
      intro w8 hg8
      rw [HOK.out.holds]
      have HG8 := Lib.hid (HG7.out.trans hg8)
      clear hg8 c0 c1 c2 c3 c4 c5 c6
      have HWT := Lib.hid (show valP p = 0 from HPV.out)
      have hg08 : Grow w w8 := HG2.out.trans HG8.out
      have hL8 : LinesAt w8 t0.v p := HP0.out.grow HG8.out
      have hOD8 : TextsAt w8 (.slice V.oa s.orders.length V.oc) s.orders := (HS2.out.grow (HG8.out.hid H)).unhide.od
      have HL8 := Lib.hid hL8
      have HOD8 := Lib.hid hOD8
      have HG08 := Lib.hid hg08
      have hox : ∀ t ∈ s.orders, t.size ≤ 1000000 := fun t ht => by
        have h1 := (Bk.okT_iff.1 (List.all_eq_true.1 HOK.out.okL t ht)).2.1
        have h2 : (dl t).length = t.size := (tx_len t).symm
        omega
      have HOX := Lib.hid hox
      have hbn : (tb (bkS s.orders)).size ≤ 1000000000 := by
        have h1 := book_len s.orders hox s.orders.length (Nat.le_refl _)
        rw [List.take_length] at h1
        have h2 := HOK.out.ord
        rw [tb_size]; omega
      have HBN := Lib.hid hbn
      have hpl8 := valp_len HPV.out
      clear hg08 hL8 hOD8 hox hbn
      go_wp2_with fail
      refine wp_region_held_drew (S := fun X => Grow w8 X) (by kernel_rfl) ((Grow.refl w8).drew) (fun hH => ?_)
      refine wpAnyH_take (i := 0) (v := .pointer (some ⟨x, 0, none⟩)) rfl (by kernel_rfl) (by kernel_rfl) (by kernel_rfl) (fun _ _ _ h => h) (Or.inl ⟨by rfl, ?_⟩) hH ?_
      · intro w9 hw9
        go_simp
      try simp only [List.getElem_toArray, List.getElem_cons_zero, Act.put, List.setIfInBounds_toArray, List.set_cons_zero, List.set_cons_succ]
      refine wpAnyH_take (i := 1) (v := .slice (some ⟨pb, po, none⟩) s.progs.length V.pc) rfl (by kernel_rfl) (by kernel_rfl) (by kernel_rfl) (fun _ _ _ h => h) (Or.inl ⟨by rfl, ?_⟩) hH ?_
      · intro w9 hw9
        obtain ⟨c0, c1, c2, c3, c4, c5, c6⟩ := st_cells (Grow.blk (HG8.out.trans hw9) HB2.out)
        rw [HPA.out] at c0
        go_simp
      try simp only [List.getElem_toArray, List.getElem_cons_succ, List.getElem_cons_zero, Act.put, List.setIfInBounds_toArray, List.set_cons_zero, List.set_cons_succ]
      refine wpAnyH_take (i := 2) (v := .pointer (some ⟨pb, po, none⟩)) rfl (by kernel_rfl) (by kernel_rfl) (by kernel_rfl) (fun _ _ _ h => h) (Or.inl ⟨by rfl, ?_⟩) hH ?_
      · intro w9 hw9
        go_simp
      try simp only [List.getElem_toArray, List.getElem_cons_succ, List.getElem_cons_zero, Act.put, List.setIfInBounds_toArray, List.set_cons_zero, List.set_cons_succ]
      refine wpAnyH_take (i := 3) (v := .slice t0.a t0.n t0.c) rfl (by kernel_rfl) (by kernel_rfl) (by kernel_rfl) (fun _ _ _ h => h) (Or.inl ⟨by rfl, ?_⟩) hH ?_
      · intro w9 hw9
        have y9 := Grow.cell (HG8.out.trans hw9) HY0.out
        go_simp
      try simp only [List.getElem_toArray, List.getElem_cons_succ, List.getElem_cons_zero, Act.put, List.setIfInBounds_toArray, List.set_cons_zero, List.set_cons_succ]
      refine wpAnyH_take (i := 4) (v := .pointer (some ⟨x, 6, none⟩)) rfl (by kernel_rfl) (by kernel_rfl) (by kernel_rfl) (fun _ _ _ h => h) (Or.inl ⟨by rfl, ?_⟩) hH ?_
      · intro w9 hw9
        go_simp
      try simp only [List.getElem_toArray, List.getElem_cons_succ, List.getElem_cons_zero, Act.put, List.setIfInBounds_toArray, List.set_cons_zero, List.set_cons_succ]
      refine wpAnyH_take (i := 5) (v := .slice V.oa s.orders.length V.oc) rfl (by kernel_rfl) (by kernel_rfl) (by kernel_rfl) (fun _ _ _ h => h) (Or.inl ⟨by rfl, ?_⟩) hH ?_
      · intro w9 hw9
        obtain ⟨c0, c1, c2, c3, c4, c5, c6⟩ := st_cells (Grow.blk (HG8.out.trans hw9) HB2.out)
        go_simp
      try simp only [List.getElem_toArray, List.getElem_cons_succ, List.getElem_cons_zero, Act.put, List.setIfInBounds_toArray, List.set_cons_zero, List.set_cons_succ]
      refine wpAnyH_ready (rs := [6]) (by kernel_rfl) (by simp) ?_
      refine AllReadyH.cons rfl (fun K hK => ?_) AllReadyH.nil
      go_simp
      refine write_any s.orders _ _ (HG.out.grow (HG08.out.trans hH)) (HOD8.out.grow hH) HOX.out (by have := HOK.out.ord; omega) _ ?_
      intro w9 hg9
      go_wp2_with fail
      refine hK.out _ _ (hH.trans hg9) (fun hH2 => ?_)
      clear hK K hH
      have hH := hH2
      clear hH2
      try simp only [List.getElem_toArray, List.getElem_cons_succ, List.getElem_cons_zero, Act.put, List.setIfInBounds_toArray, List.set_cons_zero, List.set_cons_succ]
      clear hg9
      refine wpAnyH_ready (rs := [7]) (by kernel_rfl) (by simp) ?_
      refine AllReadyH.cons rfl (fun K hK => ?_) AllReadyH.nil
      go_simp
      refine Replay_any p _ (tb (bkS s.orders)) _ (HG.out.grow (HG08.out.trans hH)) (HL8.out.grow hH) (by omega) HBN.out _ ?_ ?_
      · intro n e he; rw [HBK.out] at he; cases he
      intro s9 n9 e9 he9 w9 B9 hg9 hB9 hb9 ok9
      obtain ⟨rfl, rfl, rfl⟩ : s = s9 ∧ ((s.orders.length : Nat) : Int) = n9 ∧ (0 : Int) = e9 := by
        rw [HBK.out] at he9
        injection he9 with h1 h2
        injection h1 with h1
        injection h2 with h2 h3
        exact ⟨h1, h2, h3⟩
      clear he9
      have HB9 := Lib.hid hb9
      go_wp2_with fail
      refine hK.out _ _ (hH.trans hg9) (fun hH2 => ?_)
      clear hK K hH
      have hH := hH2
      clear hH2
      try simp only [List.getElem_toArray, List.getElem_cons_succ, List.getElem_cons_zero, Act.put, List.setIfInBounds_toArray, List.set_cons_zero, List.set_cons_succ]
      clear hg9
      refine wpAnyH_take (i := 8) (v := .tuple #[.pointer (some ⟨B9, 0, none⟩), .int .i64 (s.orders.length : Nat), .int .i64 0]) rfl (by kernel_rfl) (by kernel_rfl) (by kernel_rfl) (fun _ _ _ h => h) (Or.inl ⟨by rfl, ?_⟩) hH ?_
      · intro w9 hw9
        go_simp
      try simp only [List.getElem_toArray, List.getElem_cons_succ, List.getElem_cons_zero, Act.put, List.setIfInBounds_toArray, List.set_cons_zero, List.set_cons_succ]
      refine wpAnyH_take (i := 9) (v := .pointer (some ⟨B9, 0, none⟩)) rfl (by kernel_rfl) (by kernel_rfl) (by kernel_rfl) (fun _ _ _ h => h) (Or.inl ⟨by rfl, ?_⟩) hH ?_
      · intro w9 hw9
        go_simp
      try simp only [List.getElem_toArray, List.getElem_cons_succ, List.getElem_cons_zero, Act.put, List.setIfInBounds_toArray, List.set_cons_zero, List.set_cons_succ]
      refine wpAnyH_take (i := 10) (v := .int .i64 (s.orders.length : Nat)) rfl (by kernel_rfl) (by kernel_rfl) (by kernel_rfl) (fun _ _ _ h => h) (Or.inl ⟨by rfl, ?_⟩) hH ?_
      · intro w9 hw9
        go_simp
      try simp only [List.getElem_toArray, List.getElem_cons_succ, List.getElem_cons_zero, Act.put, List.setIfInBounds_toArray, List.set_cons_zero, List.set_cons_succ]
      refine wpAnyH_take (i := 11) (v := .int .i64 0) rfl (by kernel_rfl) (by kernel_rfl) (by kernel_rfl) (fun _ _ _ h => h) (Or.inl ⟨by rfl, ?_⟩) hH ?_
      · intro w9 hw9
        go_simp
      try simp only [List.getElem_toArray, List.getElem_cons_succ, List.getElem_cons_zero, Act.put, List.setIfInBounds_toArray, List.set_cons_zero, List.set_cons_succ]
      refine wpAnyH_take (i := 12) (v := .pointer (some ⟨B9, 0, none⟩)) rfl (by kernel_rfl) (by kernel_rfl) (by kernel_rfl) (fun _ _ _ h => h) (Or.inl ⟨by rfl, ?_⟩) hH ?_
      · intro w9 hw9
        go_simp
      try simp only [List.getElem_toArray, List.getElem_cons_succ, List.getElem_cons_zero, Act.put, List.setIfInBounds_toArray, List.set_cons_zero, List.set_cons_succ]
      refine wpAnyH_take (i := 13) (v := .int .i64 (s.orders.length : Nat)) rfl (by kernel_rfl) (by kernel_rfl) (by kernel_rfl) (fun _ _ _ h => h) (Or.inl ⟨by rfl, ?_⟩) hH ?_
      · intro w9 hw9
        go_simp
      try simp only [List.getElem_toArray, List.getElem_cons_succ, List.getElem_cons_zero, Act.put, List.setIfInBounds_toArray, List.set_cons_zero, List.set_cons_succ]
      refine wpAnyH_take (i := 14) (v := .int .i64 0) rfl (by kernel_rfl) (by kernel_rfl) (by kernel_rfl) (fun _ _ _ h => h) (Or.inl ⟨by rfl, ?_⟩) hH ?_
      · intro w9 hw9
        go_simp
      try simp only [List.getElem_toArray, List.getElem_cons_succ, List.getElem_cons_zero, Act.put, List.setIfInBounds_toArray, List.set_cons_zero, List.set_cons_succ]
      refine wpAnyH_done (by kernel_rfl) ?_ _
      obtain ⟨V9, hb9b, hs9⟩ := HB9.out.blk
      have HBB := Lib.hid hb9b
      have HS9 := Lib.hid hs9
      have HG9 := Lib.hid (HG8.out.trans hH)
      clear hH hb9b hs9 hb9
      go_wp2_with fail
      refine wp_region_held_drew (S := fun X => Grow w9 X) (by kernel_rfl) ((Grow.refl w9).drew) (fun hH => ?_)
      refine wpAnyH_take (i := 0) (v := .int .i64 0) rfl (by kernel_rfl) (by kernel_rfl) (by kernel_rfl) (fun _ _ _ h => h) (Or.inl ⟨by rfl, ?_⟩) hH ?_
      · intro w9 hw9
        go_simp
      try simp only [List.getElem_toArray, List.getElem_cons_zero, Act.put, List.setIfInBounds_toArray, List.set_cons_zero, List.set_cons_succ]
      refine wpAnyH_take (i := 1) (v := .bool true) rfl (by kernel_rfl) (by kernel_rfl) (by kernel_rfl) (fun _ _ _ h => h) (Or.inl ⟨by rfl, ?_⟩) hH ?_
      · intro w9 hw9
        go_simp
      try simp only [List.getElem_toArray, List.getElem_cons_succ, List.getElem_cons_zero, Act.put, List.setIfInBounds_toArray, List.set_cons_zero, List.set_cons_succ]
      refine wpAnyH_take (i := 2) (v := .bool true) rfl (by kernel_rfl) (by kernel_rfl) (by kernel_rfl) (fun _ _ _ h => h) (Or.inl ⟨by rfl, ?_⟩) hH ?_
      · intro w9 hw9
        go_simp
      try simp only [List.getElem_toArray, List.getElem_cons_succ, List.getElem_cons_zero, Act.put, List.setIfInBounds_toArray, List.set_cons_zero, List.set_cons_succ]
      refine wpAnyH_take (i := 3) (v := .pointer (some ⟨B9, 0, none⟩)) rfl (by kernel_rfl) (by kernel_rfl) (by kernel_rfl) (fun _ _ _ h => h) (Or.inl ⟨by rfl, ?_⟩) hH ?_
      · intro w9 hw9
        go_simp
      try simp only [List.getElem_toArray, List.getElem_cons_succ, List.getElem_cons_zero, Act.put, List.setIfInBounds_toArray, List.set_cons_zero, List.set_cons_succ]
      refine wpAnyH_take (i := 4) (v := .pointer (some ⟨B9, 0, none⟩)) rfl (by kernel_rfl) (by kernel_rfl) (by kernel_rfl) (fun _ _ _ h => h) (Or.inl ⟨by rfl, ?_⟩) hH ?_
      · intro w9 hw9
        go_simp
      try simp only [List.getElem_toArray, List.getElem_cons_succ, List.getElem_cons_zero, Act.put, List.setIfInBounds_toArray, List.set_cons_zero, List.set_cons_succ]
      refine wpAnyH_take (i := 5) (v := .pointer (some ⟨B9, 2, none⟩)) rfl (by kernel_rfl) (by kernel_rfl) (by kernel_rfl) (fun _ _ _ h => h) (Or.inl ⟨by rfl, ?_⟩) hH ?_
      · intro w9 hw9
        go_simp
      try simp only [List.getElem_toArray, List.getElem_cons_succ, List.getElem_cons_zero, Act.put, List.setIfInBounds_toArray, List.set_cons_zero, List.set_cons_succ]
      refine wpAnyH_take (i := 6) (v := .agg #[.slice V9.pa s.progs.length V9.pc, .slice V9.ha s.hist.length V9.hc, .slice V9.ta s.tests.length V9.tc, .slice V9.la s.lk.length V9.lc, .int .i64 s.fixes, .int .i64 s.checks, .slice V9.oa s.orders.length V9.oc]) rfl (by kernel_rfl) (by kernel_rfl) (by kernel_rfl) (fun _ _ _ h => h) (Or.inl ⟨by rfl, ?_⟩) hH ?_
      · intro w9 hw9
        obtain ⟨b0, b1, c0, c1, c2, c3, c4, c5, c6⟩ := bm_cells (m := 0) (V := V9) (s := s) (Grow.blk hw9 HBB.out)
        go_simp
      try simp only [List.getElem_toArray, List.getElem_cons_succ, List.getElem_cons_zero, Act.put, List.setIfInBounds_toArray, List.set_cons_zero, List.set_cons_succ]
      refine wpAnyH_take (i := 7) (v := .agg #[.slice V.pa s.progs.length V.pc, .slice V.ha s.hist.length V.hc, .slice V.ta s.tests.length V.tc, .slice V.la s.lk.length V.lc, .int .i64 s.fixes, .int .i64 s.checks, .slice V.oa s.orders.length V.oc]) rfl (by kernel_rfl) (by kernel_rfl) (by kernel_rfl) (fun _ _ _ h => h) (Or.inl ⟨by rfl, ?_⟩) hH ?_
      · intro w9 hw9
        obtain ⟨c0, c1, c2, c3, c4, c5, c6⟩ := st_cells (Grow.blk (HG9.out.trans hw9) HB2.out)
        go_simp
      try simp only [List.getElem_toArray, List.getElem_cons_succ, List.getElem_cons_zero, Act.put, List.setIfInBounds_toArray, List.set_cons_zero, List.set_cons_succ]
      refine wpAnyH_ready (rs := [8]) (by kernel_rfl) (by simp) ?_
      refine AllReadyH.cons rfl (fun K hK => ?_) AllReadyH.nil
      go_simp
      refine same_any (fun k => k == B9) H V9 V s _ (HS9.out.grow (hH.hid _)) (HS2.out.grow ((HG9.out.trans hH).hid H)) HOK.out.pne _ ?_
      intro w5 hg5
      go_wp2_with fail
      refine hK.out _ _ (hH.trans hg5) (fun hH2 => ?_)
      clear hK K hH
      have hH := hH2
      clear hH2
      try simp only [List.getElem_toArray, List.getElem_cons_succ, List.getElem_cons_zero, Act.put, List.setIfInBounds_toArray, List.set_cons_zero, List.set_cons_succ]
      clear hg5
      refine wpAnyH_take (i := 9) (v := .bool true) rfl (by kernel_rfl) (by kernel_rfl) (by kernel_rfl) (fun _ _ _ h => h) (Or.inl ⟨by rfl, ?_⟩) hH ?_
      · intro w9 hw9
        go_simp
      try simp only [List.getElem_toArray, List.getElem_cons_succ, List.getElem_cons_zero, Act.put, List.setIfInBounds_toArray, List.set_cons_zero, List.set_cons_succ]
      refine wpAnyH_take (i := 10) (v := .bool true) rfl (by kernel_rfl) (by kernel_rfl) (by kernel_rfl) (fun _ _ _ h => h) (Or.inl ⟨by rfl, ?_⟩) hH ?_
      · intro w9 hw9
        go_simp
      try simp only [List.getElem_toArray, List.getElem_cons_succ, List.getElem_cons_zero, Act.put, List.setIfInBounds_toArray, List.set_cons_zero, List.set_cons_succ]
      refine wpAnyH_done (by kernel_rfl) ?_ _
      have HF := Lib.hid (HR.out _ (HG2.out.trans (HG9.out.trans hH)))
      clear hH
      go_wp2_with fail
      exact HF.out
end Go.Proofs.YtgjppekjkofdiaaGreatDoor

namespace Go.Proofs.YtgjppekjkofdiaaGreatDoor
open Go.RowKit

theorem RepB.dos {p : List Ln} {s : Bn} (h : RepB p s) : ∀ l, RepB p (dosB s l)
  | [] => h
  | t :: r => (h.do t).dos r
end Go.Proofs.YtgjppekjkofdiaaGreatDoor

namespace Go.Proofs.YtgjppekjkofdiaaGreatDoor
open Go.RowKit

set_option maxRecDepth 100000 in
set_option maxHeartbeats 8000000 in
theorem firm_any (p : List Ln) (l : List ByteArray) (n : Int) (v u : Value) (w : World) (hg : Glob w) (hp : LinesAt w v p) (hn : p.length < 10000000000) (hl : TextsAt w u l) (hsz : ∀ t ∈ l, t.size < 4294967281) (R : Ending → World → Prop)
    (hno : valP p ≠ 0 → ∀ w', Grow w w' → R (.returned (.tuple #[.pointer none, .slice none 0 0, .bool false])) w')
    (hok : valP p = 0 → ∀ w' B x S base, Grow w w' → w.heap.size < B → B < base → BnAt (fun k => k == B) B w' S → OkB S → RepB p S → S.orders.length ≤ 24 → w'.ownsRow base 9 1 x S.orders.length (S.orders.flatMap encTx) → R (.returned (.tuple #[.pointer (some ⟨B, 0, none⟩), x, .bool true])) w') :
    Calls Tryz.prog 28 #[.agg #[v, u, .int .i64 n], .int .i64 24] w R := by
  have HNO := Lib.hid hno
  have HOK := Lib.hid hok
  have HP := Lib.hid hp
  have HG := Lib.hid hg
  have HL := Lib.hid hl
  have HSZ := Lib.hid hsz
  have hgs := hg.size
  obtain ⟨pa, pc, rfl, p1, p2, jk⟩ := hp
  obtain ⟨ua, uc, rfl, ul1, ul2, jk2⟩ := hl
  clear hno hok hg hsz jk jk2
  go_enter Tryz.func28, Tryz.ntmps28
  have hb := heap_alloc_new w (.cells #[.slice pa p.length pc, .slice ua l.length uc, .int .i64 n] 57)
  have hg0 := (Grow.refl w).alloc (.cells #[.slice pa p.length pc, .slice ua l.length uc, .int .i64 n] 57)
  have hz0 := World.size_alloc w (.cells #[.slice pa p.length pc, .slice ua l.length uc, .int .i64 n] 57)
  go_wp2_with fail
  generalize w.alloc (.cells #[.slice pa p.length pc, .slice ua l.length uc, .int .i64 n] 57) = W at hb hg0 hz0 ⊢
  refine New_any p _ _ (HP.out.grow hg0) hn _ ?_ ?_
  · intro h0 w1 hg1
    have HF := Lib.hid (HNO.out h0 w1 (hg0.trans hg1))
    have hz : (valP p != 0) = true := by simpa using h0
    obtain ⟨e, he⟩ : ∃ e, valP p = e := ⟨_, rfl⟩
    rw [he] at hz h0 ⊢
    clear he hg1 hb hg0 hz0
    go_wp2_with fail
    first | exact HF.out | exact bodyPost_ret (by simp [results, Tryz.results28, go_sem]) rfl HF.out
  · intro h0 w1 B hg1 hB hbn
    have HG0 := Lib.hid hg0
    have HW1 := Lib.hid hg1
    have HB1 := Lib.hid hbn
    have H0 := Lib.hid h0
    have HBL := Lib.hid (hbn.hid.bd B (by simp))
    have hwB : w.heap.size < B := by omega
    have hWB : W.heap.size ≤ B := hB
    have hB4 : 4 < B := by omega
    have HBX := Lib.hid hb
    have HTW := Lib.hid (HL.out.grow hg0)
    have HN0 := Lib.hid (OkB.new h0)
    clear hg1 hbn h0 hb hg0 hB hz0
    go_wp2_with fail
    obtain ⟨base, hbase⟩ : ∃ z, w1.heap.size = z := ⟨_, rfl⟩
    have hBb : B < base := by rw [← hbase]; exact HBL.out
    have HBS := Lib.hid hbase
    clear hbase
    go_loopw [9, 10] (fun s9 s10 wr => ∃ (k : Nat) (H : Nat → Bool), k ≤ l.length ∧ k ≤ 24 ∧ s10 = .int .i64 k ∧ Grow W wr ∧ base ≤ wr.heap.size ∧ BnAt H B wr (dosB (newB p) (l.take k)) ∧ wr.ownsRow base 9 1 s9 (dosB (newB p) (l.take k)).orders.length ((dosB (newB p) (l.take k)).orders.flatMap encTx) ∧ ∀ b, s9.ownBlock = some b → H b = true ∧ b ≠ B) (fun _ s10 _ => l.length - (intOf s10).toNat)
    case atStart => exact ⟨0, _, Nat.zero_le _, Nat.zero_le _, rfl, HW1.out, by rw [HBS.out]; exact Nat.le_refl _, HB1.out, World.ownsRow_nil _ _ _ _, fun b hb => by cases hb⟩
    case round =>
    obtain ⟨k, H, hk, hk24, rfl, hgW, hbz, hbn, how, hov⟩ := hrel
    have HGX := Lib.hid hgW
    have HGW := Lib.hid (HG0.out.trans hgW)
    have HBN := Lib.hid hbn
    have HOW := Lib.hid how
    have HOV := Lib.hid hov
    obtain ⟨c0, c1, c2⟩ := box3 (hgW.blk HBX.out)
    have hfin : ¬ (k < l.length ∧ k < 24) → R (.returned (.tuple #[.pointer (some ⟨B, 0, none⟩), u9, .bool true])) wr := fun _ => by
      have h1 := orders_dos (newB p) (l.take k)
      have h2 : (newB p).orders.length = 0 := rfl
      rw [List.length_take] at h1
      exact HOK.out H0.out wr B u9 _ base HGW.out hwB hBb HBN.out.only (HN0.out.dos _) ((RepB.new p).dos _) (by omega) HOW.out
    have HFIN := Lib.hid hfin
    clear hgW hbn how hfin hov
    by_cases hlt : k < l.length
    rotate_left
    · have hltz : decide ((k : Int) < (l.length : Int)) = false := by rw [decide_eq_false_iff_not]; omega
      have HF := Lib.hid (HFIN.out (fun h => hlt h.1))
      go_wp2_with fail
      first | exact HF.out | exact bodyPost_ret (by simp [results, Tryz.results28, go_sem]) rfl HF.out
    have hltz : decide ((k : Int) < (l.length : Int)) = true := by rw [decide_eq_true_eq]; omega
    by_cases h24 : k < 24
    rotate_left
    · have h24z : decide ((k : Int) < 24) = false := by rw [decide_eq_false_iff_not]; omega
      have HF := Lib.hid (HFIN.out (fun h => h24 h.2))
      go_wp2_with fail
      first | exact HF.out | exact bodyPost_ret (by simp [results, Tryz.results28, go_sem]) rfl HF.out
    have h24z : decide ((k : Int) < 24) = true := by rw [decide_eq_true_eq]; omega
    obtain ⟨t, ht⟩ : ∃ t, l[k]? = some t := ⟨_, List.getElem?_eq_getElem hlt⟩
    obtain ⟨b, o, rfl, hbl, y0⟩ := texts_at (HTW.out.grow HGX.out) ht
    have hus := HSZ.out t (List.mem_of_getElem? ht)
    have hkz : (k : Int) < (l.length : Int) := by omega
    have HU := Lib.hid ht
    have hol : (dosB (newB p) (l.take k)).orders.length ≤ k := by
      have h1 := orders_dos (newB p) (l.take k)
      have h2 : (newB p).orders.length = 0 := rfl
      rw [List.length_take] at h1
      omega
    clear ht HFIN
    go_wp2_with fail
    refine bDo_any H B t hus (dosB (newB p) (l.take k)) _ (HG.out.grow HGW.out) HBN.out (HN0.out.dos _) hB4 _ ?_
    intro w5 hc5 hb5
    have HG5 := Lib.hid (chg_grow HGX.out hc5 hWB)
    have HO5 := Lib.hid (row_chg HOW.out hc5 hBb)
    have hbz5 : base ≤ w5.heap.size := Nat.le_trans hbz hc5.sz
    have y5 : w5.cell? ⟨b, o + k, none⟩ = some (.string t) := by
      obtain ⟨b', o', e', _, y'⟩ := texts_at (HTW.out.grow HG5.out) HU.out
      cases e'
      exact y'
    have hbx5 := HG5.out.blk HBX.out
    have HSN := Lib.hid (dos_snoc (s := newB p) HU.out)
    obtain ⟨S, hS⟩ : ∃ z, dosB (newB p) (l.take k) = z := ⟨_, rfl⟩
    rw [hS] at HSN HO5 hb5 hol ⊢
    clear hc5 y0 c0 c1 c2 HOW HBN hS
    obtain ⟨c0, c1, c2⟩ := box3 hbx5
    by_cases he : (doB S t).1 = 0
    · have HOR := Lib.hid (doB_ok he)
      rw [he]
      have HB5 := Lib.hid (show BnAt H B w5 (dosB (newB p) (l.take (k + 1))) by rw [HSN.out]; exact hb5)
      clear hb5 he hbx5
      go_wp2_with (at_builtin; refine wpList_appAt _ rfl (.tmp 43) (.tmp 49) 23 rfl base 9 Tryz.underlying23 b_info_str rfl (by decide) (by decide) encTx encTx_len encTx_one _ S.orders rfl (((Grow.refl w5).alloc _).owns HO5.out) _ t 1 rfl (newsG _ _ (by simp) (encTx t) _) (by omega) (by simp; omega) ?_; intro out2 w6 hown6 hgr6 hat6)
      have hg6 : Grow W w6 := grown_below HO5.out hgr6 (by omega) (by simp; omega) (HG5.out.alloc _)
      obtain ⟨H6, hb6, hv6⟩ := (HB5.out.grow ((Grow.refl w5).alloc _)).row HOV.out hgr6 (fun b hb => (hown6.lt b hb).2) hat6
      have HB6 := Lib.hid hb6
      have HV6 := Lib.hid hv6
      have HG6 := Lib.hid hg6
      have hbz6 : base ≤ w6.heap.size := Nat.le_trans hbz5 (Nat.le_trans ((Grow.refl w5).alloc _).sz hgr6.size)
      have HO6 := Lib.hid (show w6.ownsRow base 9 1 out2 (dosB (newB p) (l.take (k + 1))).orders.length ((dosB (newB p) (l.take (k + 1))).orders.flatMap encTx) by rw [HSN.out, HOR.out]; exact hown6)
      clear hown6 hgr6 hat6 hg6 hb6 hv6
      go_roundw
      case rel => exact ⟨k + 1, H6, by omega, by omega, by go_num, HG6.out, hbz6, HB6.out, HO6.out, HV6.out⟩
      case measure => simp [intOf]; omega
    · have hst := doB_err he
      have HB5 := Lib.hid (show BnAt H B w5 (dosB (newB p) (l.take (k + 1))) by rw [HSN.out]; exact hb5)
      have HO6 := Lib.hid (show w5.ownsRow base 9 1 u9 (dosB (newB p) (l.take (k + 1))).orders.length ((dosB (newB p) (l.take (k + 1))).orders.flatMap encTx) by rw [HSN.out, hst]; exact HO5.out)
      obtain ⟨e, hee⟩ : ∃ e, (doB S t).1 = e := ⟨_, rfl⟩
      rw [hee] at he ⊢
      have t2 : (e == 0) = false := beq_eq_false_iff_ne.2 he
      clear hb5 he hbx5 hst hee
      go_wp2_with fail
      go_roundw
      case rel => exact ⟨k + 1, H, by omega, by omega, by go_num, HG5.out, hbz5, HB5.out, HO6.out, HOV.out⟩
      case measure => simp [intOf]; omega
end Go.Proofs.YtgjppekjkofdiaaGreatDoor

namespace Go.Proofs.YtgjppekjkofdiaaGreatDoor
open Go.RowKit

theorem okL_take {l : List ByteArray} (h : okL l = true) (k : Nat) : okL (l.take k) = true :=
  List.all_eq_true.2 fun t ht => List.all_eq_true.1 h t (List.mem_of_mem_take ht)
theorem wr_take {l : List ByteArray} (h : okL l = true) (h8 : l.length ≤ 80) (k : Nat) : wrS (l.take k) = bkS (l.take k) ∧ wrE (l.take k) = 0 := by
  have hl : ¬ 80 < (l.take k).length := by rw [List.length_take]; omega
  unfold wrS wrE
  rw [if_neg hl, if_neg hl, okL_take h k]
  exact ⟨rfl, rfl⟩
theorem bk_bound {s : Bn} (ok : OkB s) : (bkS s.orders).length ≤ 100000000 := by
  have h1 := book_len s.orders ok.tsz s.orders.length (Nat.le_refl _)
  rw [List.take_length] at h1
  have := ok.ord
  omega
theorem RepB.take {p : List Ln} {s : Bn} (ok : OkB s) (h : RepB p s) (hp : valP p = 0) {k : Nat} (hk : k ≤ s.orders.length) :
    repB p (tb (bkS (s.orders.take k))) = (some (dosB (newB p) (s.orders.take k)), ((k : Nat) : Int), (0 : Int)) := by
  have hl : (s.orders.take k).length = k := by rw [List.length_take]; omega
  unfold repB ordB
  rw [if_neg (by rw [hp]; simp), book_read (okL_take ok.okL k) (by rw [hl]; have := ok.ord; omega)]
  dsimp only
  rw [if_neg (by simp), map_tb_dl, h.stop k hk, hl]
theorem bk_cut {l : List ByteArray} (hok : okL l = true) (hl : l.length ≤ 80) {m : Nat} (hm : m ≤ (bkS l).length) :
    ∃ (k : Nat) (r : List UInt8), k ≤ l.length ∧ Bk.readL 80 0 ((bkS l).take m) = ((l.take k).map dl, r) ∧ r.length ≤ m ∧ (bkS l).take (m - r.length) = bkS (l.take k) ∧ (r = [] ∨ k < l.length) := by
  obtain ⟨k, h1, h2, h3, h4, _⟩ := Bk.readL_take (l.map dl) 80 0 m (fun t ht => by
    obtain ⟨u, hu, rfl⟩ := List.mem_map.1 ht
    exact List.all_eq_true.1 hok u hu) (by rw [List.length_map]; exact hl) hm
  rw [List.length_map] at h1 h3
  obtain ⟨r, hr⟩ : ∃ r, (Bk.readL 80 0 ((bkS l).take m)).2 = r := ⟨_, rfl⟩
  have h2' : (Bk.readL 80 0 ((bkS l).take m)).1 = (l.take k).map dl := by rw [List.map_take]; exact h2
  have h3' : (Bk.readL 80 0 ((bkS l).take m)).2 = [] ∨ k < l.length := h3
  have h4' : (bkS l).take m = bkS (l.take k) ++ (Bk.readL 80 0 ((bkS l).take m)).2 := by
    have h := h4
    rw [← List.map_take] at h
    exact h
  rw [hr] at h3' h4'
  have hlen := congrArg List.length h4'
  rw [List.length_take, List.length_append, Nat.min_eq_left hm] at hlen
  refine ⟨k, r, h1, by rw [← h2', ← hr], by omega, ?_, h3'⟩
  have hA : (bkS (l.take k)).length = m - r.length := by omega
  have h5 : ((bkS l).take m).take (m - r.length) = bkS (l.take k) := by rw [h4', ← hA, List.take_left]
  rw [List.take_take, Nat.min_eq_left (by omega)] at h5
  exact h5
theorem difL_pre : ∀ (l : List (List UInt8)) (k : Nat), difL (l.take k) l = none ∧ difL l (l.take k) = none
  | [], k => by simp [difL]
  | a :: l, 0 => by simp [difL]
  | a :: l, k + 1 => by
    rw [List.take_succ_cons]
    unfold difL
    rw [if_pos rfl, if_pos rfl, (difL_pre l k).1, (difL_pre l k).2]
    exact ⟨rfl, rfl⟩
theorem mrg_pre {l : List ByteArray} (hok : okL l = true) (hl : l.length ≤ 80) {k : Nat} (hk : k ≤ l.length) :
    mrgB (tb (bkS (l.take k))) (tb (bkS l)) = (tb (bkS l), ((l.length : Nat) : Int), (0 : Int)) ∧ mrgB (tb (bkS l)) (tb (bkS (l.take k))) = (tb (bkS l), ((l.length : Nat) : Int), (0 : Int)) := by
  have hlk : (l.take k).length = k := by rw [List.length_take]; omega
  have r1 := book_read (okL_take hok k) (by rw [hlk]; omega)
  have r2 := book_read hok hl
  have hd := difL_pre (l.map dl) k
  rw [← List.map_take] at hd
  constructor
  · unfold mrgB
    rw [r1, r2]
    dsimp only
    rw [if_neg (by simp), hd.1]
    dsimp only
    rw [List.length_map, List.length_map, hlk]
    by_cases h : k < l.length
    · rw [if_pos h]
    · rw [if_neg h]
      have : k = l.length := by omega
      subst this
      rw [List.take_length]
  · unfold mrgB
    rw [r1, r2]
    dsimp only
    rw [if_neg (by simp), hd.2]
    dsimp only
    rw [List.length_map, List.length_map, hlk, if_neg (by omega)]
end Go.Proofs.YtgjppekjkofdiaaGreatDoor

namespace Go.Proofs.YtgjppekjkofdiaaGreatDoor
open Go.RowKit

def topT : ByteArray := ⟨#[56, 50, 49, 48, 54, 57, 32, 99, 104, 101, 99, 107, 10, 56, 50, 49]⟩
theorem top_read : (Bk.readL 80 0 topT.data.toList).1.map tb = [⟨#[99, 104, 101, 99, 107]⟩] ∧ (Bk.readL 80 0 topT.data.toList).2 = [56, 50, 49] := by
  have ho : Sn.o1 = ⟨#[99, 104, 101, 99, 107]⟩ := rfl
  have h1 : topT.data.toList = Bk.lineL (Bk.sumL 0 (dl Sn.o1)) (dl Sn.o1) ++ [56, 50, 49] := by
    have h2 := sn_book
    unfold bkS at h2
    have h3 : Bk.lineL (Bk.sumL 0 (dl Sn.o1)) (dl Sn.o1) ++ [] = [56, 50, 49, 48, 54, 57, 32, 99, 104, 101, 99, 107, 10] := h2
    rw [List.append_nil] at h3
    rw [h3]; rfl
  rw [h1, Bk.readL_cons (by decide +kernel), Bk.readL_torn (by decide)]
  refine ⟨?_, rfl⟩
  show [tb (dl Sn.o1)] = _
  rw [ho]; rfl
theorem wr_all {s : Bn} (ok : OkB s) : wrS s.orders = bkS s.orders ∧ wrE s.orders = 0 := by
  have h := wr_take ok.okL ok.ord s.orders.length
  rwa [List.take_length] at h
theorem read_all {s : Bn} (ok : OkB s) : (Bk.readL 80 0 (tb (bkS s.orders)).data.toList).1.map tb = s.orders ∧ (Bk.readL 80 0 (tb (bkS s.orders)).data.toList).2 = [] := by
  rw [book_read ok.okL ok.ord]
  exact ⟨map_tb_dl _, rfl⟩

set_option maxRecDepth 100000 in
set_option maxHeartbeats 16000000 in
theorem topBook_any (p : List Ln) (l : List ByteArray) (n : Int) (v u : Value) (w : World) (hg : Glob w) (hp : LinesAt w v p) (hpl : p.length < 10000000000) (hl : TextsAt w u l) (hsz : ∀ t ∈ l, t.size < 4294967281) (R : Ending → World → Prop) (hR : ∀ w', Grow w w' → R (.returned (.bool true)) w') :
    Calls Tryz.prog 6 #[.agg #[v, u, .int .i64 n]] w R := by
  have HR := Lib.hid hR
  have HG := Lib.hid hg
  have HP := Lib.hid hp
  have HL := Lib.hid hl
  have HSZ := Lib.hid hsz
  have hgs := hg.size
  obtain ⟨pa, pc, rfl, p1, p2, jk⟩ := hp
  obtain ⟨ua, uc, rfl, ul1, ul2, jk2⟩ := hl
  clear hR hg hsz jk jk2
  go_enter Tryz.func6, Tryz.ntmps6
  have hb := heap_alloc_new w (.cells #[.slice pa p.length pc, .slice ua l.length uc, .int .i64 n] 57)
  have hg0 := (Grow.refl w).alloc (.cells #[.slice pa p.length pc, .slice ua l.length uc, .int .i64 n] 57)
  go_wp2_with fail
  generalize w.alloc (.cells #[.slice pa p.length pc, .slice ua l.length uc, .int .i64 n] 57) = W at hb hg0 ⊢
  refine Read_any topT (by decide) _ (HG.out.grow hg0) _ ?_
  intro w1 rv hg1 ho1
  rw [top_read.1] at ho1
  rw [top_read.2]
  have HT1 := Lib.hid (slc_of_owns encTx_len ho1)
  obtain ⟨ra, rc, rfl, r1, r2, jk⟩ := slc_of_owns encTx_len ho1
  obtain ⟨rb, ro, rfl, hrb, y0⟩ := texts_at HT1.out (k := 0) rfl
  rw [Nat.add_zero] at y0
  have HB1 := Lib.hid (hg1.blk hb)
  have HG1 := Lib.hid (hg0.trans hg1)
  obtain ⟨c0, c1, c2⟩ := box3 HB1.out
  have hrs : tb [56, 50, 49] = ⟨#[56, 50, 49]⟩ := rfl
  rw [hrs]
  clear hb hg0 hg1 ho1 jk hrs
  simp only [List.length_cons, List.length_nil, Nat.zero_add] at r1 ⊢
  go_wp2_with fail
  refine firm_any p l n _ _ _ (HG.out.grow HG1.out) (HP.out.grow HG1.out) hpl (HL.out.grow HG1.out) HSZ.out _ ?_ ?_
  · intro _ w2 hg2
    have HF := Lib.hid (HR.out w2 (HG1.out.trans hg2))
    clear hg2 c0 c1 c2 y0
    go_wp2_with fail
    exact HF.out
  intro h0 w2 B dv S base hg2 hB hBb hbn hok hrep h24 how
  have HG2 := Lib.hid (HG1.out.trans hg2)
  have HB2 := Lib.hid (hg2.blk HB1.out)
  have HBN := Lib.hid hbn
  have HOK := Lib.hid hok
  have HREP := Lib.hid hrep
  have H0 := Lib.hid h0
  have HD2 := Lib.hid (slc_of_owns encTx_len how)
  have ho80 := hok.ord
  have hbb := bk_bound hok
  obtain ⟨da, dc, rfl, d1, d2, jk⟩ := slc_of_owns encTx_len how
  clear hg2 hbn hok hrep h0 how jk c0 c1 c2 y0 HT1 HB1
  go_wp2_with fail
  refine Book_any (fun k => k == B) B S _ (HG.out.grow HG2.out) HBN.out HOK.out _ ?_
  intro w3 hg3
  have HG3 := Lib.hid (HG2.out.trans hg3)
  have HB3 := Lib.hid (hg3.blk HB2.out)
  have HD3 := Lib.hid (HD2.out.grow hg3)
  have hrd := read_all HOK.out
  have hwa := wr_all HOK.out
  obtain ⟨A, hA⟩ : ∃ A, bkS S.orders = A := ⟨_, rfl⟩
  have HAS := Lib.hid hA
  have htbs := tb_size A
  rw [hA] at hrd hwa hbb ⊢
  have HRD := Lib.hid hrd
  have HWA := Lib.hid hwa
  clear hg3 hA hrd hwa HB2 HD2 HBN
  go_wp2_with fail
  refine Write_any S.orders _ _ (HG.out.grow HG3.out) HD3.out HOK.out.tsz _ ?_
  intro w4 hg4
  rw [HWA.out.1, HWA.out.2]
  have HG4 := Lib.hid (HG3.out.trans hg4)
  have HB4 := Lib.hid (hg4.blk HB3.out)
  have HD4 := Lib.hid (HD3.out.grow hg4)
  clear hg4 HB3 HD3
  go_wp2_with fail
  refine Read_any (tb A) (by omega) _ (HG.out.grow HG4.out) _ ?_
  intro w5 v5 hg5 ho5
  rw [HRD.out.1] at ho5
  rw [HRD.out.2]
  have HT5 := Lib.hid (slc_of_owns encTx_len ho5)
  have HG5 := Lib.hid (HG4.out.trans hg5)
  have HB5 := Lib.hid (hg5.blk HB4.out)
  have HD5 := Lib.hid (HD4.out.grow hg5)
  obtain ⟨ta, tc, rfl, t1, t2, jk⟩ := slc_of_owns encTx_len ho5
  have htn := tb_nil
  clear hg5 ho5 jk HB4 HD4
  go_wp2_with fail
  go_loopw [13] (fun s wr => ∃ k : Nat, k ≤ S.orders.length ∧ s = .int .i64 k ∧ Grow w5 wr) (fun s _ => S.orders.length - (intOf s).toNat)
  case atStart => exact ⟨0, Nat.zero_le _, rfl, Grow.refl _⟩
  case round =>
  obtain ⟨k, hk, rfl, hgr⟩ := hrel
  have HGR := Lib.hid hgr
  clear hgr
  by_cases hlt : k < S.orders.length
  · have hltz : (k : Int) < (S.orders.length : Int) := by omega
    obtain ⟨t, ht⟩ : ∃ t, S.orders[k]? = some t := ⟨_, List.getElem?_eq_getElem hlt⟩
    obtain ⟨b, o, rfl, hbl, y0⟩ := texts_at (HT5.out.grow HGR.out) ht
    obtain ⟨b2, o2, rfl, hbl2, y1⟩ := texts_at (HD5.out.grow HGR.out) ht
    clear ht
    go_wp2_with (go_quiet (fail))
    go_roundw
    case rel => exact ⟨k + 1, by omega, by go_num, by first | exact HGR.out | exact HGR.out.drewN _⟩
    case measure => simp [intOf]; omega
  obtain rfl : k = S.orders.length := by omega
  have hltz : ¬ (S.orders.length : Int) < (S.orders.length : Int) := by omega
  obtain ⟨w6, hw6⟩ : ∃ z : World, z = wr := ⟨_, rfl⟩
  rw [← hw6] at HGR ⊢
  have HG6 := Lib.hid (HG5.out.trans HGR.out)
  have HB6 := Lib.hid (HGR.out.blk HB5.out)
  have HD6 := Lib.hid (HD5.out.grow HGR.out)
  obtain ⟨c0, c1, c2⟩ := box3 HB6.out
  obtain ⟨m, hm, hml⟩ := keep_bd n A.length (by omega)
  have hmz : ¬ (m : Int) < 0 := by omega
  have hmA : m ≤ (tb A).size := by omega
  have hex := tb_extract A 0 m
  rw [List.drop_zero] at hex
  have HEX := Lib.hid hex
  clear hex hw6 hlt hk HT5 HGR HG5 HB5 HD5 t1 t2
  go_wp2_with fail
  rw [HEX.out]
  obtain ⟨k, r, hk, hkr, hrm, hpre, hkl⟩ := bk_cut (l := S.orders) HOK.out.okL ho80 (m := m) (by rw [HAS.out]; exact hml)
  rw [HAS.out] at hkr hpre
  refine Read_any (tb (A.take m)) (by rw [tb_size, List.length_take]; omega) _ (HG.out.grow HG6.out) _ ?_
  intro w7 v7 hg7 ho7
  rw [tb_data, hkr] at ho7 ⊢
  dsimp only at ho7 ⊢
  rw [map_tb_dl] at ho7
  have HKR := Lib.hid hkr
  have HPRE := Lib.hid hpre
  have HKL := Lib.hid hkl
  have hkn : (S.orders.take k).length = k := by rw [List.length_take]; omega
  have HT7 := Lib.hid (slc_of_owns encTx_len ho7)
  have HG7 := Lib.hid (HG6.out.trans hg7)
  have HB7 := Lib.hid (hg7.blk HB6.out)
  have HD7 := Lib.hid (HD6.out.grow hg7)
  obtain ⟨ka, kc, rfl, k1, k2, jk⟩ := slc_of_owns encTx_len ho7
  rw [hkn] at k1 HT7 ⊢
  have hrs := tb_size r
  have hkgz : decide ((k : Int) > (S.orders.length : Int)) = false := by rw [decide_eq_false_iff_not]; omega
  have hrgz : decide ((r.length : Int) > (m : Int)) = false := by rw [decide_eq_false_iff_not]; omega
  clear hg7 ho7 jk hkr hpre hkl c0 c1 c2 HB6 HD6 hm
  go_wp2_with fail
  go_loopw [15] (fun s wr => ∃ j : Nat, j ≤ k ∧ s = .int .i64 j ∧ Grow w7 wr) (fun s _ => k - (intOf s).toNat)
  case atStart => exact ⟨0, Nat.zero_le _, rfl, Grow.refl _⟩
  case round =>
  obtain ⟨j, hj, rfl, hgr⟩ := hrel
  have HGR := Lib.hid hgr
  clear hgr
  by_cases hlt : j < k
  · have hltz : (j : Int) < (k : Int) := by omega
    have hlt2 : (j : Int) < (S.orders.length : Int) := by omega
    obtain ⟨t, ht⟩ : ∃ t, S.orders[j]? = some t := ⟨_, List.getElem?_eq_getElem (by omega)⟩
    have htk : (S.orders.take k)[j]? = some t := by rw [List.getElem?_take, if_pos hlt, ht]
    obtain ⟨b, o, rfl, hbl, y0⟩ := texts_at (HT7.out.grow HGR.out) htk
    obtain ⟨b2, o2, rfl, hbl2, y1⟩ := texts_at (HD7.out.grow HGR.out) ht
    clear ht htk
    go_wp2_with (go_quiet (fail))
    go_roundw
    case rel => exact ⟨j + 1, by omega, by go_num, by first | exact HGR.out | exact HGR.out.drewN _⟩
    case measure => simp [intOf]; omega
  obtain rfl : j = k := by omega
  have hltz : ¬ (j : Int) < (j : Int) := by omega
  obtain ⟨w8, hw8⟩ : ∃ z : World, z = wr := ⟨_, rfl⟩
  rw [← hw8] at HGR ⊢
  have HG8 := Lib.hid (HG7.out.trans HGR.out)
  have HB8 := Lib.hid (HGR.out.blk HB7.out)
  obtain ⟨M1, M2⟩ := mrg_pre HOK.out.okL ho80 hk
  rw [HAS.out] at M1 M2
  have hwr : IntKind.i64.wrap ((m : Int) - (r.length : Int)) = ((m - r.length : Nat) : Int) := by
    rw [show (m : Int) - (r.length : Int) = ((m - r.length : Nat) : Int) by omega]
    exact IntWalk.i64_in _ (by omega)
  have hmr : m - r.length ≤ (tb A).size := by omega
  have hex := tb_extract A 0 (m - r.length)
  rw [List.drop_zero, HPRE.out] at hex
  have HEX2 := Lib.hid hex
  have HM1 := Lib.hid M1
  have HM2 := Lib.hid M2
  have hpk : (tb (bkS (S.orders.take j))).size ≤ 1000000000 := by rw [tb_size, ← HPRE.out, List.length_take]; omega
  have HPK := Lib.hid hpk
  clear hex hw8 hlt M1 M2 hpk HT7 HD7 HGR HG7 HB7
  go_wp2_with fail
  rw [HEX2.out]
  refine Merge_any (tb (bkS (S.orders.take j))) (tb A) HPK.out (by omega) _ (HG.out.grow HG8.out) _ ?_
  intro w9 hg9
  rw [HM1.out]
  dsimp only
  have HG9 := Lib.hid (HG8.out.trans hg9)
  have HB9 := Lib.hid (hg9.blk HB8.out)
  clear hg9
  go_wp2_with fail
  refine Merge_any (tb A) (tb (bkS (S.orders.take j))) (by omega) HPK.out _ (HG.out.grow HG9.out) _ ?_
  intro w10 hg10
  rw [HM2.out]
  dsimp only
  have HG10 := Lib.hid (HG9.out.trans hg10)
  have HB10 := Lib.hid (hg10.blk HB9.out)
  obtain ⟨c0, c1, c2⟩ := box3 HB10.out
  clear hg10 HB8 HB9
  have HPS := Lib.hid (show (tb (A.take m)).size ≤ 1000000000 by rw [tb_size, List.length_take]; omega)
  by_cases hr : r = []
  · subst hr
    have hrep : repB p (tb (A.take m)) = (some (dosB (newB p) (S.orders.take j)), ((j : Nat) : Int), (0 : Int)) := by
      have h1 := HPRE.out
      rw [List.length_nil, Nat.sub_zero] at h1
      rw [h1]
      exact HREP.out.take HOK.out H0.out hk
    have HRB := Lib.hid hrep
    clear hrep
    go_wp2_with fail
    refine wp_region_held_drew (S := fun X => Grow w10 X) (by kernel_rfl) ((Grow.refl w10).drew) (fun hH => ?_)
    refine wpAnyH_take (i := 0) (v := .pointer (some ⟨w.heap.size, 0, none⟩)) rfl (by kernel_rfl) (by kernel_rfl) (by kernel_rfl) (fun _ _ _ h => h) (Or.inl ⟨by rfl, ?_⟩) hH ?_
    · intro w9 hw9
      go_simp
    try simp only [List.getElem_toArray, List.getElem_cons_zero, Act.put, List.setIfInBounds_toArray, List.set_cons_zero, List.set_cons_succ]
    refine wpAnyH_take (i := 1) (v := .slice pa p.length pc) rfl (by kernel_rfl) (by kernel_rfl) (by kernel_rfl) (fun _ _ _ h => h) (Or.inl ⟨by rfl, ?_⟩) hH ?_
    · intro w9 hw9
      obtain ⟨z0, z1, z2⟩ := box3 (Grow.blk hw9 HB10.out)
      go_simp
    try simp only [List.getElem_toArray, List.getElem_cons_succ, List.getElem_cons_zero, Act.put, List.setIfInBounds_toArray, List.set_cons_zero, List.set_cons_succ]
    refine wpAnyH_take (i := 2) (v := .string (tb A)) rfl (by kernel_rfl) (by kernel_rfl) (by kernel_rfl) (fun _ _ _ h => h) (Or.inl ⟨by rfl, ?_⟩) hH ?_
    · intro w9 hw9
      go_simp
    try simp only [List.getElem_toArray, List.getElem_cons_succ, List.getElem_cons_zero, Act.put, List.setIfInBounds_toArray, List.set_cons_zero, List.set_cons_succ]
    refine wpAnyH_take (i := 3) (v := .int .i64 (m : Nat)) rfl (by kernel_rfl) (by kernel_rfl) (by kernel_rfl) (fun _ _ _ h => h) (Or.inl ⟨by rfl, ?_⟩) hH ?_
    · intro w9 hw9
      go_simp
    try simp only [List.getElem_toArray, List.getElem_cons_succ, List.getElem_cons_zero, Act.put, List.setIfInBounds_toArray, List.set_cons_zero, List.set_cons_succ]
    refine wpAnyH_take (i := 4) (v := .string (tb (A.take m))) rfl (by kernel_rfl) (by kernel_rfl) (by kernel_rfl) (fun _ _ _ h => h) (Or.inl ⟨by rfl, ?_⟩) hH ?_
    · intro w9 hw9
      go_simp
      all_goals first | done | exact HEX.out | rw [HEX.out] | skip
    try simp only [List.getElem_toArray, List.getElem_cons_succ, List.getElem_cons_zero, Act.put, List.setIfInBounds_toArray, List.set_cons_zero, List.set_cons_succ]
    refine wpAnyH_ready (rs := [5]) (by kernel_rfl) (by simp) ?_
    refine AllReadyH.cons rfl (fun K hK => ?_) AllReadyH.nil
    go_simp
    refine Replay_any p _ (tb (A.take m)) _ (HG.out.grow (HG10.out.trans hH)) (HP.out.grow (HG10.out.trans hH)) hpl HPS.out _ ?_ ?_
    · intro n9 e9 he9; rw [HRB.out] at he9; cases he9
    intro s9 n9 e9 he9 w11 B9 hg11 hB9 hb9 ok9
    obtain ⟨rfl, rfl⟩ : ((j : Nat) : Int) = n9 ∧ (0 : Int) = e9 := by
      rw [HRB.out] at he9
      injection he9 with h1 h2
      injection h2 with h2 h3
      exact ⟨h2, h3⟩
    clear he9 hb9 ok9
    go_wp2_with fail
    refine hK.out _ _ (hH.trans hg11) (fun hH2 => ?_)
    clear hK K hH
    have hH := hH2
    clear hH2
    try simp only [List.getElem_toArray, List.getElem_cons_succ, List.getElem_cons_zero, Act.put, List.setIfInBounds_toArray, List.set_cons_zero, List.set_cons_succ]
    clear hg11
    refine wpAnyH_take (i := 6) (v := .tuple #[.pointer (some ⟨B9, 0, none⟩), .int .i64 (j : Nat), .int .i64 0]) rfl (by kernel_rfl) (by kernel_rfl) (by kernel_rfl) (fun _ _ _ h => h) (Or.inl ⟨by rfl, ?_⟩) hH ?_
    · intro w9 hw9
      go_simp
    try simp only [List.getElem_toArray, List.getElem_cons_succ, List.getElem_cons_zero, Act.put, List.setIfInBounds_toArray, List.set_cons_zero, List.set_cons_succ]
    refine wpAnyH_take (i := 7) (v := .pointer (some ⟨B9, 0, none⟩)) rfl (by kernel_rfl) (by kernel_rfl) (by kernel_rfl) (fun _ _ _ h => h) (Or.inl ⟨by rfl, ?_⟩) hH ?_
    · intro w9 hw9
      go_simp
    try simp only [List.getElem_toArray, List.getElem_cons_succ, List.getElem_cons_zero, Act.put, List.setIfInBounds_toArray, List.set_cons_zero, List.set_cons_succ]
    refine wpAnyH_take (i := 8) (v := .int .i64 (j : Nat)) rfl (by kernel_rfl) (by kernel_rfl) (by kernel_rfl) (fun _ _ _ h => h) (Or.inl ⟨by rfl, ?_⟩) hH ?_
    · intro w9 hw9
      go_simp
    try simp only [List.getElem_toArray, List.getElem_cons_succ, List.getElem_cons_zero, Act.put, List.setIfInBounds_toArray, List.set_cons_zero, List.set_cons_succ]
    refine wpAnyH_take (i := 9) (v := .int .i64 0) rfl (by kernel_rfl) (by kernel_rfl) (by kernel_rfl) (fun _ _ _ h => h) (Or.inl ⟨by rfl, ?_⟩) hH ?_
    · intro w9 hw9
      go_simp
    try simp only [List.getElem_toArray, List.getElem_cons_succ, List.getElem_cons_zero, Act.put, List.setIfInBounds_toArray, List.set_cons_zero, List.set_cons_succ]
    refine wpAnyH_take (i := 10) (v := .pointer (some ⟨B9, 0, none⟩)) rfl (by kernel_rfl) (by kernel_rfl) (by kernel_rfl) (fun _ _ _ h => h) (Or.inl ⟨by rfl, ?_⟩) hH ?_
    · intro w9 hw9
      go_simp
    try simp only [List.getElem_toArray, List.getElem_cons_succ, List.getElem_cons_zero, Act.put, List.setIfInBounds_toArray, List.set_cons_zero, List.set_cons_succ]
    refine wpAnyH_take (i := 11) (v := .int .i64 (j : Nat)) rfl (by kernel_rfl) (by kernel_rfl) (by kernel_rfl) (fun _ _ _ h => h) (Or.inl ⟨by rfl, ?_⟩) hH ?_
    · intro w9 hw9
      go_simp
    try simp only [List.getElem_toArray, List.getElem_cons_succ, List.getElem_cons_zero, Act.put, List.setIfInBounds_toArray, List.set_cons_zero, List.set_cons_succ]
    refine wpAnyH_take (i := 12) (v := .int .i64 0) rfl (by kernel_rfl) (by kernel_rfl) (by kernel_rfl) (fun _ _ _ h => h) (Or.inl ⟨by rfl, ?_⟩) hH ?_
    · intro w9 hw9
      go_simp
    try simp only [List.getElem_toArray, List.getElem_cons_succ, List.getElem_cons_zero, Act.put, List.setIfInBounds_toArray, List.set_cons_zero, List.set_cons_succ]
    refine wpAnyH_done (by kernel_rfl) ?_ _
    have HF := Lib.hid (HR.out _ (HG10.out.trans hH))
    clear hH
    go_wp2_with fail
    exact HF.out
  · have hrep : repB p (tb (A.take m)) = (none, (0 : Int), (10 : Int)) := by
      unfold repB
      rw [if_neg (by rw [H0.out]; simp), tb_data, HKR.out]
      dsimp only
      rw [if_pos hr]
    have HRB := Lib.hid hrep
    have hrb := tb_nel hr
    have hrc : ((tb r).toList == []) = false := beq_eq_false_iff_ne.2 hrb
    clear hrep
    go_wp2_with fail
    refine wp_region_held_drew (S := fun X => Grow w10 X) (by kernel_rfl) ((Grow.refl w10).drew) (fun hH => ?_)
    refine wpAnyH_take (i := 0) (v := .pointer (some ⟨w.heap.size, 0, none⟩)) rfl (by kernel_rfl) (by kernel_rfl) (by kernel_rfl) (fun _ _ _ h => h) (Or.inl ⟨by rfl, ?_⟩) hH ?_
    · intro w9 hw9
      go_simp
    try simp only [List.getElem_toArray, List.getElem_cons_zero, Act.put, List.setIfInBounds_toArray, List.set_cons_zero, List.set_cons_succ]
    refine wpAnyH_take (i := 1) (v := .slice pa p.length pc) rfl (by kernel_rfl) (by kernel_rfl) (by kernel_rfl) (fun _ _ _ h => h) (Or.inl ⟨by rfl, ?_⟩) hH ?_
    · intro w9 hw9
      obtain ⟨z0, z1, z2⟩ := box3 (Grow.blk hw9 HB10.out)
      go_simp
    try simp only [List.getElem_toArray, List.getElem_cons_succ, List.getElem_cons_zero, Act.put, List.setIfInBounds_toArray, List.set_cons_zero, List.set_cons_succ]
    refine wpAnyH_take (i := 2) (v := .string (tb A)) rfl (by kernel_rfl) (by kernel_rfl) (by kernel_rfl) (fun _ _ _ h => h) (Or.inl ⟨by rfl, ?_⟩) hH ?_
    · intro w9 hw9
      go_simp
    try simp only [List.getElem_toArray, List.getElem_cons_succ, List.getElem_cons_zero, Act.put, List.setIfInBounds_toArray, List.set_cons_zero, List.set_cons_succ]
    refine wpAnyH_take (i := 3) (v := .int .i64 (m : Nat)) rfl (by kernel_rfl) (by kernel_rfl) (by kernel_rfl) (fun _ _ _ h => h) (Or.inl ⟨by rfl, ?_⟩) hH ?_
    · intro w9 hw9
      go_simp
    try simp only [List.getElem_toArray, List.getElem_cons_succ, List.getElem_cons_zero, Act.put, List.setIfInBounds_toArray, List.set_cons_zero, List.set_cons_succ]
    refine wpAnyH_take (i := 4) (v := .string (tb (A.take m))) rfl (by kernel_rfl) (by kernel_rfl) (by kernel_rfl) (fun _ _ _ h => h) (Or.inl ⟨by rfl, ?_⟩) hH ?_
    · intro w9 hw9
      go_simp
      all_goals first | done | exact HEX.out | rw [HEX.out] | skip
    try simp only [List.getElem_toArray, List.getElem_cons_succ, List.getElem_cons_zero, Act.put, List.setIfInBounds_toArray, List.set_cons_zero, List.set_cons_succ]
    refine wpAnyH_ready (rs := [5]) (by kernel_rfl) (by simp) ?_
    refine AllReadyH.cons rfl (fun K hK => ?_) AllReadyH.nil
    go_simp
    refine Replay_any p _ (tb (A.take m)) _ (HG.out.grow (HG10.out.trans hH)) (HP.out.grow (HG10.out.trans hH)) hpl HPS.out _ ?_ ?_
    rotate_left
    · intro s9 n9 e9 he9; rw [HRB.out] at he9; cases he9
    intro n9 e9 he9 w11 hg11
    obtain ⟨rfl, rfl⟩ : (0 : Int) = n9 ∧ (10 : Int) = e9 := by
      rw [HRB.out] at he9
      injection he9 with h1 h2
      injection h2 with h2 h3
      exact ⟨h2, h3⟩
    clear he9
    go_wp2_with fail
    refine hK.out _ _ (hH.trans hg11) (fun hH2 => ?_)
    clear hK K hH
    have hH := hH2
    clear hH2
    try simp only [List.getElem_toArray, List.getElem_cons_succ, List.getElem_cons_zero, Act.put, List.setIfInBounds_toArray, List.set_cons_zero, List.set_cons_succ]
    clear hg11
    refine wpAnyH_take (i := 6) (v := .tuple #[.pointer none, .int .i64 0, .int .i64 10]) rfl (by kernel_rfl) (by kernel_rfl) (by kernel_rfl) (fun _ _ _ h => h) (Or.inl ⟨by rfl, ?_⟩) hH ?_
    · intro w9 hw9
      go_simp
    try simp only [List.getElem_toArray, List.getElem_cons_succ, List.getElem_cons_zero, Act.put, List.setIfInBounds_toArray, List.set_cons_zero, List.set_cons_succ]
    refine wpAnyH_take (i := 7) (v := .pointer none) rfl (by kernel_rfl) (by kernel_rfl) (by kernel_rfl) (fun _ _ _ h => h) (Or.inl ⟨by rfl, ?_⟩) hH ?_
    · intro w9 hw9
      go_simp
    try simp only [List.getElem_toArray, List.getElem_cons_succ, List.getElem_cons_zero, Act.put, List.setIfInBounds_toArray, List.set_cons_zero, List.set_cons_succ]
    refine wpAnyH_take (i := 8) (v := .int .i64 0) rfl (by kernel_rfl) (by kernel_rfl) (by kernel_rfl) (fun _ _ _ h => h) (Or.inl ⟨by rfl, ?_⟩) hH ?_
    · intro w9 hw9
      go_simp
    try simp only [List.getElem_toArray, List.getElem_cons_succ, List.getElem_cons_zero, Act.put, List.setIfInBounds_toArray, List.set_cons_zero, List.set_cons_succ]
    refine wpAnyH_take (i := 9) (v := .int .i64 10) rfl (by kernel_rfl) (by kernel_rfl) (by kernel_rfl) (fun _ _ _ h => h) (Or.inl ⟨by rfl, ?_⟩) hH ?_
    · intro w9 hw9
      go_simp
    try simp only [List.getElem_toArray, List.getElem_cons_succ, List.getElem_cons_zero, Act.put, List.setIfInBounds_toArray, List.set_cons_zero, List.set_cons_succ]
    refine wpAnyH_take (i := 10) (v := .pointer none) rfl (by kernel_rfl) (by kernel_rfl) (by kernel_rfl) (fun _ _ _ h => h) (Or.inl ⟨by rfl, ?_⟩) hH ?_
    · intro w9 hw9
      go_simp
    try simp only [List.getElem_toArray, List.getElem_cons_succ, List.getElem_cons_zero, Act.put, List.setIfInBounds_toArray, List.set_cons_zero, List.set_cons_succ]
    refine wpAnyH_take (i := 11) (v := .int .i64 0) rfl (by kernel_rfl) (by kernel_rfl) (by kernel_rfl) (fun _ _ _ h => h) (Or.inl ⟨by rfl, ?_⟩) hH ?_
    · intro w9 hw9
      go_simp
    try simp only [List.getElem_toArray, List.getElem_cons_succ, List.getElem_cons_zero, Act.put, List.setIfInBounds_toArray, List.set_cons_zero, List.set_cons_succ]
    refine wpAnyH_take (i := 12) (v := .int .i64 10) rfl (by kernel_rfl) (by kernel_rfl) (by kernel_rfl) (fun _ _ _ h => h) (Or.inl ⟨by rfl, ?_⟩) hH ?_
    · intro w9 hw9
      go_simp
    try simp only [List.getElem_toArray, List.getElem_cons_succ, List.getElem_cons_zero, Act.put, List.setIfInBounds_toArray, List.set_cons_zero, List.set_cons_succ]
    refine wpAnyH_done (by kernel_rfl) ?_ _
    have HF := Lib.hid (HR.out _ (HG10.out.trans hH))
    clear hH
    go_wp2_with fail
    exact HF.out
end Go.Proofs.YtgjppekjkofdiaaGreatDoor

namespace Go.Proofs.YtgjppekjkofdiaaGreatDoor
open Go.RowKit

set_option maxRecDepth 100000 in
set_option maxHeartbeats 8000000 in
theorem Tests_any (H : Nat → Bool) (B : Nat) (s : Bn) (w : World) (h : BnAt H B w s) (ok : OkB s) (R : Ending → World → Prop)
    (hR : ∀ w' v base L, Grow w w' → w.heap.size ≤ base → TqOwn base w' v L → L.map Tq.p = s.tests → R (.returned v) w') :
    Calls Tryz.prog 17 #[.pointer (some ⟨B, 0, none⟩)] w R := by
  have HR := Lib.hid hR
  have HH := Lib.hid h
  have H8 := Lib.hid ok.t8
  have HX4 := Lib.hid (fun (t : Tst) (ht : t ∈ s.tests) => show t.xs.length = 4 from (valS_ok.1 (Tst.ok_iff.1 ((valT_ok.1 ok.tst).2 t ht)).1).1)
  clear hR h ok
  go_enter Tryz.func17, Tryz.ntmps17
  go_wp2_with fail
  refine look_any H B s _ HH.out _ ?_
  intro w1 V hg1 hs1
  obtain ⟨M, hM, hMx⟩ := hs1.unhide.ts
  have hMl : M.length = s.tests.length := by rw [← hMx]; simp
  have HG1 := Lib.hid hg1
  have HM := Lib.hid hM
  have HMX := Lib.hid hMx
  rw [st_out V s]
  have hfd := fun x0 x1 x2 x3 x4 x5 x6 W => (st_field x0 x1 x2 x3 x4 x5 x6 W).2.2
  clear hs1 hM hMx
  go_wp2_with fail
  go_loopw [3, 10] (fun out i wr => ∃ (k : Nat) (L : List Tq), k ≤ s.tests.length ∧ i = .int .i64 k ∧ Grow w1 wr ∧ TqOwn w1.heap.size wr out L ∧ L.map Tq.p = s.tests.take k) (fun _ i _ => s.tests.length - (intOf i).toNat)
  case atStart => exact ⟨0, [], Nat.zero_le _, rfl, Grow.refl _, TqOwn.nil _ _, rfl⟩
  case round =>
    obtain ⟨k, L, hk, rfl, hg, how, hLx⟩ := hrel
    have HG := Lib.hid hg
    have HOW := Lib.hid how
    have HLX := Lib.hid hLx
    have hzw := hg.sz
    have hLk : L.length = k := by have := congrArg List.length hLx; simp at this; omega
    clear hg how hLx
    by_cases hlt : k < s.tests.length
    · have hlt2 : (k : Int) < (s.tests.length : Int) := by omega
      have hk8 : k < 8 := by have := H8.out; omega
      obtain ⟨q, hq⟩ : ∃ q, M[k]? = some q := ⟨_, List.getElem?_eq_getElem (by omega)⟩
      obtain ⟨mb, mo, hta, hmb, m0, m1, m2⟩ := tq_at (HM.out.grow HG.out).at_ hq
      have hqk : s.tests[k]? = some q.p := by rw [← HMX.out, List.getElem?_map, hq]; rfl
      have hx4 := HX4.out q.p (List.mem_of_getElem? hqk)
      have HI := Lib.hid ((HM.out.grow HG.out).ins q (List.mem_of_getElem? hq))
      have HLN := Lib.hid (show s.tests.take (k + 1) = s.tests.take k ++ [q.p] by rw [List.take_add_one, hqk]; rfl)
      have HLE := Lib.hid (show L.length < 100000000000 by have := H8.out; omega)
      have hx4' : q.xs.length = 4 := hx4
      rw [hta]
      clear hqk hq hLk hta hx4
      obtain ⟨qa, qn, qc, qx, qo, qw⟩ := q
      dsimp only at m0 m1 m2 HI HLN hx4'
      have HXQ := Lib.hid hx4'
      clear hx4'
      go_upto_region 5 with fail
      obtain ⟨w2, hw2⟩ : ∃ z : World, z = wr.alloc (.cells #[.slice qa qn qc, .int .i64 qo, .int .i64 qw] 101) := ⟨_, rfl⟩
      change Code.wp _ _ _ _ (wr.alloc (.cells #[.slice qa qn qc, .int .i64 qo, .int .i64 qw] 101))
      have hg2 : Grow wr w2 := by rw [hw2]; exact (Grow.refl wr).alloc _
      have hb2 : w2.heap[wr.heap.size]? = some (.cells #[.slice qa qn qc, .int .i64 qo, .int .i64 qw] 101 (0, 0)) := by rw [hw2]; exact heap_alloc_new _ _
      rw [← hw2]
      obtain ⟨x, hx⟩ : ∃ z, wr.heap.size = z := ⟨_, rfl⟩
      have hx1 : w1.heap.size ≤ x := by omega
      rw [hx] at hb2 ⊢
      have HB2 := Lib.hid hb2
      have HI2 := Lib.hid (HI.out.grow hg2)
      have HG2 := Lib.hid (HG.out.trans hg2)
      have HO2 := Lib.hid (HOW.out.grow hg2)
      have HOWL := Lib.hid (fun b (hb : u3.ownBlock = some b) => show b < x from by rw [← hx]; exact HOW.out.lt hb)
      have hbase2 : w1.heap.size ≤ w2.heap.size := HG2.out.sz
      clear hw2 hg2 hb2 hx m0 m1 m2 HOW HI
      go_wp2_with fail
      refine wp_region_held_drew (S := fun X => X.heap[x]? = some (.cells #[.slice qa qn qc, .int .i64 qo, .int .i64 qw] 101 (0, 0)) ∧ Grow w1 X) (by kernel_rfl) ⟨(Grow.refl w2).drew.blk HB2.out, HG2.out.trans (Grow.refl w2).drew⟩ (fun hH => ?_)
      refine wpAnyH_take (i := 0) (v := u3) rfl (by kernel_rfl) (by kernel_rfl) (by kernel_rfl) (fun _ _ _ h => h) (Or.inl ⟨by rfl, ?_⟩) hH ?_
      · intro w9 hw9
        go_simp
      try simp only [List.getElem_toArray, List.getElem_cons_zero, Act.put, List.setIfInBounds_toArray, List.set_cons_zero, List.set_cons_succ]
      refine wpAnyH_take (i := 1) (v := .pointer (some ⟨x, 0, none⟩)) rfl (by kernel_rfl) (by kernel_rfl) (by kernel_rfl) (fun _ _ _ h => h) (Or.inl ⟨by rfl, ?_⟩) hH ?_
      · intro w9 hw9
        go_simp
      try simp only [List.getElem_toArray, List.getElem_cons_succ, List.getElem_cons_zero, Act.put, List.setIfInBounds_toArray, List.set_cons_zero, List.set_cons_succ]
      refine wpAnyH_take (i := 2) (v := .slice qa qn qc) rfl (by kernel_rfl) (by kernel_rfl) (by kernel_rfl) (fun _ _ _ h => h) (Or.inl ⟨by rfl, ?_⟩) hH ?_
      · intro w9 hw9
        obtain ⟨y0, y1, y2⟩ := box3 hw9.1
        go_simp
      try simp only [List.getElem_toArray, List.getElem_cons_succ, List.getElem_cons_zero, Act.put, List.setIfInBounds_toArray, List.set_cons_zero, List.set_cons_succ]
      refine wpAnyH_take (i := 4) (v := .pointer (some ⟨x, 1, none⟩)) rfl (by kernel_rfl) (by kernel_rfl) (by kernel_rfl) (fun _ _ _ h => h) (Or.inl ⟨by rfl, ?_⟩) hH ?_
      · intro w9 hw9
        go_simp
      try simp only [List.getElem_toArray, List.getElem_cons_succ, List.getElem_cons_zero, Act.put, List.setIfInBounds_toArray, List.set_cons_zero, List.set_cons_succ]
      refine wpAnyH_take (i := 5) (v := .int .i64 qo) rfl (by kernel_rfl) (by kernel_rfl) (by kernel_rfl) (fun _ _ _ h => h) (Or.inl ⟨by rfl, ?_⟩) hH ?_
      · intro w9 hw9
        obtain ⟨y0, y1, y2⟩ := box3 hw9.1
        go_simp
      try simp only [List.getElem_toArray, List.getElem_cons_succ, List.getElem_cons_zero, Act.put, List.setIfInBounds_toArray, List.set_cons_zero, List.set_cons_succ]
      refine wpAnyH_take (i := 6) (v := .pointer (some ⟨x, 2, none⟩)) rfl (by kernel_rfl) (by kernel_rfl) (by kernel_rfl) (fun _ _ _ h => h) (Or.inl ⟨by rfl, ?_⟩) hH ?_
      · intro w9 hw9
        go_simp
      try simp only [List.getElem_toArray, List.getElem_cons_succ, List.getElem_cons_zero, Act.put, List.setIfInBounds_toArray, List.set_cons_zero, List.set_cons_succ]
      refine wpAnyH_take (i := 7) (v := .int .i64 qw) rfl (by kernel_rfl) (by kernel_rfl) (by kernel_rfl) (fun _ _ _ h => h) (Or.inl ⟨by rfl, ?_⟩) hH ?_
      · intro w9 hw9
        obtain ⟨y0, y1, y2⟩ := box3 hw9.1
        go_simp
      try simp only [List.getElem_toArray, List.getElem_cons_succ, List.getElem_cons_zero, Act.put, List.setIfInBounds_toArray, List.set_cons_zero, List.set_cons_succ]
      refine wpAnyH_ready (rs := [3]) (by kernel_rfl) (by simp) ?_
      refine AllReadyH.cons rfl (fun K hK => ?_) AllReadyH.nil
      go_simp
      refine clI_any qx _ _ (HI2.out.grow (Grow.refl w2).drew) (by have := HXQ.out; omega) _ ?_
      intro w3 v3 hg3 hv3
      go_wp2_with fail
      have HG3 := Lib.hid (show Grow w2 w3 from (Grow.refl w2).drew.trans hg3)
      have HO3 := Lib.hid (show Own 1 encI w2.heap.size w3 v3 qx from ⟨_, hv3⟩)
      obtain ⟨a3, c3, rfl, q1, q2, jk3⟩ := HO3.out.slc encI_len
      have HS3 := Lib.hid (HO3.out.slc encI_len)
      have HB1 := Lib.hid (HO2.out.new hbase2 HO3.out)
      clear jk3 hv3
      refine hK.out _ _ ⟨hg3.blk hH.1, hH.2.trans hg3⟩ (fun hH2 => ?_)
      clear hK K hH
      have hH := hH2
      clear hH2
      try simp only [List.getElem_toArray, List.getElem_cons_succ, List.getElem_cons_zero, Act.put, List.setIfInBounds_toArray, List.set_cons_zero, List.set_cons_succ]
      clear hg3
      refine wpAnyH_take (i := 8) (v := .agg #[.slice a3 qx.length c3, .int .i64 qo, .int .i64 qw]) rfl (by kernel_rfl) (by kernel_rfl) (by kernel_rfl) (fun _ _ _ h => h) (Or.inl ⟨by rfl, ?_⟩) hH ?_
      · intro w9 hw9
        go_simp
      try simp only [List.getElem_toArray, List.getElem_cons_succ, List.getElem_cons_zero, Act.put, List.setIfInBounds_toArray, List.set_cons_zero, List.set_cons_succ]
      refine wpAnyH_ready (rs := [9]) (by kernel_rfl) (by simp) ?_
      refine AllReadyH.cons rfl (fun K hK => ?_) AllReadyH.nil
      go_simp
      refine hK.out _ _ ⟨((Grow.refl w3).alloc _).blk hH.1, hH.2.alloc _⟩ (fun hH2 => ?_)
      clear hK K hH
      have hH := hH2
      clear hH2
      try simp only [List.getElem_toArray, List.getElem_cons_succ, List.getElem_cons_zero, Act.put, List.setIfInBounds_toArray, List.set_cons_zero, List.set_cons_succ]
      have hg34 : Grow w3 (w3.alloc (.cells #[.slice a3 qx.length c3, .int .i64 qo, .int .i64 qw] 101)) := (Grow.refl w3).alloc _
      have HO4 := Lib.hid (HO2.out.grow (HG3.out.trans hg34))
      refine wpAnyH_ready (rs := [10]) (by kernel_rfl) (by simp) ?_
      refine AllReadyH.cons rfl (fun K hK => ?_) AllReadyH.nil
      refine step_appB rfl (.tmp 14) (.tmp 23) 36 rfl w1.heap.size 101 Tryz.underlying36 b_info_ts rfl (by decide) (by decide) encTq encTq_len encTq_one u3 L (by simp [Act.eval]) HO4.out.row ⟨w3.heap.size, 0, none⟩ (⟨a3, qx.length, c3, qx, qo, qw⟩ : Tq) 1 (by simp [Act.eval] <;> rfl) (news_blk (heap_alloc_new w3 (.cells #[.slice a3 qx.length c3, .int .i64 qo, .int .i64 qw] 101))) HLE.out hH.2.sz ?_
      intro v6 w6 hown6 hgr6 hat6
      have HG6 := Lib.hid (show Grow w1 w6 from grown_below HO4.out.row hgr6 (Nat.le_refl _) hH.2.sz hH.2)
      have hkx : w6.heap[x]? = some (.cells #[.slice qa qn qc, .int .i64 qo, .int .i64 qw] 101 (0, 0)) := by
        rw [hgr6.block x (lt_of_block hH.1) (fun e => by have h1 := HOWL.out x e.symm; omega)]
        exact hH.1
      have HO6 := Lib.hid (HO4.out.app (t := (⟨a3, qx.length, c3, qx, qo, qw⟩ : Tq)) hgr6 hown6 hat6 (HS3.out.grow hg34) fun b o s hb => ⟨(HB1.out b o s hb).1, Nat.lt_of_lt_of_le (HB1.out b o s hb).2.1 hg34.sz, (HB1.out b o s hb).2.2⟩)
      clear hown6 hgr6 hat6 hg34
      refine hK.out _ _ ⟨hkx, HG6.out⟩ (fun hH2 => ?_)
      clear hK K hH
      have hH := hH2
      clear hH2
      try simp only [List.getElem_toArray, List.getElem_cons_succ, List.getElem_cons_zero, Act.put, List.setIfInBounds_toArray, List.set_cons_zero, List.set_cons_succ]
      clear hkx
      refine wpAnyH_take (i := 11) (v := v6) rfl (by kernel_rfl) (by kernel_rfl) (by kernel_rfl) (fun _ _ _ h => h) (Or.inl ⟨by rfl, ?_⟩) hH ?_
      · intro w9 hw9
        go_simp
      try simp only [List.getElem_toArray, List.getElem_cons_succ, List.getElem_cons_zero, Act.put, List.setIfInBounds_toArray, List.set_cons_zero, List.set_cons_succ]
      refine wpAnyH_done (by kernel_rfl) ?_ _
      clear hH
      go_wp2_with fail
      go_roundw
      case rel => exact ⟨k + 1, L ++ [⟨a3, qx.length, c3, qx, qo, qw⟩], by omega, by go_num, HG6.out, HO6.out, by rw [HLN.out, List.map_append, HLX.out]; rfl⟩
      case measure => simp [intOf]; omega
    · obtain rfl : k = s.tests.length := by omega
      have hltz : ¬ (s.tests.length : Int) < (s.tests.length : Int) := by omega
      have hLx := HLX.out
      rw [List.take_length] at hLx
      have HF := Lib.hid (HR.out wr _ w1.heap.size L (HG1.out.trans HG.out) HG1.out.sz HOW.out hLx)
      clear hLx
      go_wp2_with fail
      exact HF.out
end Go.Proofs.YtgjppekjkofdiaaGreatDoor

namespace Go.Proofs.YtgjppekjkofdiaaGreatDoor
open Go.RowKit

set_option maxRecDepth 100000 in
set_option maxHeartbeats 16000000 in
theorem sameBench_any (H H2 : Nat → Bool) (B B2 : Nat) (s : Bn) (w : World) (hg : Glob w) (h : BnAt H B w s) (h2 : BnAt H2 B2 w s) (ok : OkB s) (R : Ending → World → Prop)
    (hR : ∀ w', Grow w w' → R (.returned (.bool true)) w') :
    Calls Tryz.prog 33 #[.pointer (some ⟨B, 0, none⟩), .pointer (some ⟨B2, 0, none⟩)] w R := by
  have HR := Lib.hid hR
  have HG := Lib.hid hg
  have HH := Lib.hid h
  have HK := Lib.hid h2
  have HOK := Lib.hid ok
  clear hR hg h h2 ok
  go_enter Tryz.func33, Tryz.ntmps33
  go_wp2_with fail
  refine Tests_any H B s _ HH.out HOK.out _ ?_
  intro w1 xv base1 X hg1 hb1 hx1 hX
  have HG1 := Lib.hid hg1
  have HX1 := Lib.hid hx1.at_
  have HXX := Lib.hid hX
  clear hb1 hx1 hX hg1
  go_wp2_with fail
  refine Tests_any H2 B2 s _ (HK.out.grow HG1.out) HOK.out _ ?_
  intro w2 yv base2 Y hg2 hb2 hy2 hY
  have HG2 := Lib.hid (HG1.out.trans hg2)
  have HX2 := Lib.hid (HX1.out.grow hg2)
  have HY2 := Lib.hid hy2.at_
  have HYY := Lib.hid hY
  have hxl : X.length = s.tests.length := by rw [← HXX.out]; simp
  have hyl : Y.length = s.tests.length := by rw [← hY]; simp
  have ht8 := HOK.out.t8
  obtain ⟨xa, xc, rfl, x1, x2, jk1⟩ := HX2.out.at_
  obtain ⟨ya, yc, rfl, y1, y2, jk2⟩ := HY2.out.at_
  rw [hxl] at x1 ⊢
  rw [hyl] at y1 ⊢
  have HX3 := Lib.hid (show TqAt w2 (.slice xa s.tests.length xc) X by rw [← hxl]; exact HX2.out)
  have HY3 := Lib.hid (show TqAt w2 (.slice ya s.tests.length yc) Y by rw [← hyl]; exact HY2.out)
  have HPA := Lib.hid (fun (k : Nat) (hk : k < s.tests.length) => pair_at HXX.out HYY.out hk)
  clear hg2 hb2 hy2 hY jk1 jk2 hxl hyl HX1 HX2 HY2 HG1
  go_wp2_with fail
  go_loopw [7] (fun s7 wr => ∃ k : Nat, k ≤ s.tests.length ∧ s7 = .int .i64 k ∧ Grow w2 wr) (fun s7 _ => s.tests.length - (intOf s7).toNat)
  case atStart => exact ⟨0, Nat.zero_le _, rfl, Grow.refl _⟩
  case round =>
  obtain ⟨k, hk, rfl, hgr⟩ := hrel
  have HGR := Lib.hid hgr
  clear hgr
  by_cases hlt : k < s.tests.length
  · have hltz : (k : Int) < (s.tests.length : Int) := by omega
    obtain ⟨q, r, hq, hr, hqr⟩ := HPA.out k hlt
    obtain ⟨b, o, rfl, hb, c0, c1, c2⟩ := tq_at (HX3.out.grow HGR.out).at_ hq
    obtain ⟨b2, o2, rfl, hb2, d0, d1, d2⟩ := tq_at (HY3.out.grow HGR.out).at_ hr
    have HI := Lib.hid ((HX3.out.grow HGR.out).ins q (List.mem_of_getElem? hq))
    have HJ := Lib.hid ((HY3.out.grow HGR.out).ins r (List.mem_of_getElem? hr))
    obtain ⟨qa, qn, qc, qx, qo, qw⟩ := q
    obtain ⟨ra, rn, rc, rx, ro, rw_⟩ := r
    dsimp only at c0 c1 c2 d0 d1 d2 HI HJ
    unfold Tq.p at hqr
    injection hqr with _ e2 e3 e4
    dsimp only at e2 e3 e4
    subst e2 e3 e4
    clear hq hr
    go_wp2_with fail
    refine wp_region_held_drew (S := fun X => Grow wr X) (by kernel_rfl) ((Grow.refl wr).drew) (fun hH => ?_)
    refine wpAnyH_take (i := 0) (v := .slice (some ⟨b, o, none⟩) s.tests.length xc) rfl (by kernel_rfl) (by kernel_rfl) (by kernel_rfl) (fun _ _ _ h => h) (Or.inl ⟨by rfl, ?_⟩) hH ?_
    · intro w9 hw9
      go_simp
    try simp only [List.getElem_toArray, List.getElem_cons_zero, Act.put, List.setIfInBounds_toArray, List.set_cons_zero, List.set_cons_succ]
    refine wpAnyH_take (i := 1) (v := .int .i64 (k : Nat)) rfl (by kernel_rfl) (by kernel_rfl) (by kernel_rfl) (fun _ _ _ h => h) (Or.inl ⟨by rfl, ?_⟩) hH ?_
    · intro w9 hw9
      go_simp
    try simp only [List.getElem_toArray, List.getElem_cons_succ, List.getElem_cons_zero, Act.put, List.setIfInBounds_toArray, List.set_cons_zero, List.set_cons_succ]
    refine wpAnyH_take (i := 2) (v := .pointer (some ⟨b, o + k * 3, none⟩)) rfl (by kernel_rfl) (by kernel_rfl) (by kernel_rfl) (fun _ _ _ h => h) (Or.inl ⟨by rfl, ?_⟩) hH ?_
    · intro w9 hw9
      go_simp
    try simp only [List.getElem_toArray, List.getElem_cons_succ, List.getElem_cons_zero, Act.put, List.setIfInBounds_toArray, List.set_cons_zero, List.set_cons_succ]
    refine wpAnyH_take (i := 3) (v := .pointer (some ⟨b, o + k * 3, none⟩)) rfl (by kernel_rfl) (by kernel_rfl) (by kernel_rfl) (fun _ _ _ h => h) (Or.inl ⟨by rfl, ?_⟩) hH ?_
    · intro w9 hw9
      go_simp
    try simp only [List.getElem_toArray, List.getElem_cons_succ, List.getElem_cons_zero, Act.put, List.setIfInBounds_toArray, List.set_cons_zero, List.set_cons_succ]
    refine wpAnyH_take (i := 4) (v := .slice qa qn qc) rfl (by kernel_rfl) (by kernel_rfl) (by kernel_rfl) (fun _ _ _ h => h) (Or.inl ⟨by rfl, ?_⟩) hH ?_
    · intro w9 hw9
      have z9 := Grow.cell hw9 c0
      go_simp
    try simp only [List.getElem_toArray, List.getElem_cons_succ, List.getElem_cons_zero, Act.put, List.setIfInBounds_toArray, List.set_cons_zero, List.set_cons_succ]
    refine wpAnyH_take (i := 5) (v := .slice (some ⟨b2, o2, none⟩) s.tests.length yc) rfl (by kernel_rfl) (by kernel_rfl) (by kernel_rfl) (fun _ _ _ h => h) (Or.inl ⟨by rfl, ?_⟩) hH ?_
    · intro w9 hw9
      go_simp
    try simp only [List.getElem_toArray, List.getElem_cons_succ, List.getElem_cons_zero, Act.put, List.setIfInBounds_toArray, List.set_cons_zero, List.set_cons_succ]
    refine wpAnyH_take (i := 6) (v := .int .i64 (k : Nat)) rfl (by kernel_rfl) (by kernel_rfl) (by kernel_rfl) (fun _ _ _ h => h) (Or.inl ⟨by rfl, ?_⟩) hH ?_
    · intro w9 hw9
      go_simp
    try simp only [List.getElem_toArray, List.getElem_cons_succ, List.getElem_cons_zero, Act.put, List.setIfInBounds_toArray, List.set_cons_zero, List.set_cons_succ]
    refine wpAnyH_take (i := 7) (v := .pointer (some ⟨b2, o2 + k * 3, none⟩)) rfl (by kernel_rfl) (by kernel_rfl) (by kernel_rfl) (fun _ _ _ h => h) (Or.inl ⟨by rfl, ?_⟩) hH ?_
    · intro w9 hw9
      go_simp
    try simp only [List.getElem_toArray, List.getElem_cons_succ, List.getElem_cons_zero, Act.put, List.setIfInBounds_toArray, List.set_cons_zero, List.set_cons_succ]
    refine wpAnyH_take (i := 8) (v := .pointer (some ⟨b2, o2 + k * 3, none⟩)) rfl (by kernel_rfl) (by kernel_rfl) (by kernel_rfl) (fun _ _ _ h => h) (Or.inl ⟨by rfl, ?_⟩) hH ?_
    · intro w9 hw9
      go_simp
    try simp only [List.getElem_toArray, List.getElem_cons_succ, List.getElem_cons_zero, Act.put, List.setIfInBounds_toArray, List.set_cons_zero, List.set_cons_succ]
    refine wpAnyH_take (i := 9) (v := .slice ra rn rc) rfl (by kernel_rfl) (by kernel_rfl) (by kernel_rfl) (fun _ _ _ h => h) (Or.inl ⟨by rfl, ?_⟩) hH ?_
    · intro w9 hw9
      have z9 := Grow.cell hw9 d0
      go_simp
    try simp only [List.getElem_toArray, List.getElem_cons_succ, List.getElem_cons_zero, Act.put, List.setIfInBounds_toArray, List.set_cons_zero, List.set_cons_succ]
    refine wpAnyH_ready (rs := [10]) (by kernel_rfl) (by simp) ?_
    refine AllReadyH.cons rfl (fun K hK => ?_) AllReadyH.nil
    go_simp
    refine rsameI1_any qx qx _ _ _ (HI.out.grow hH) (HJ.out.grow hH) _ ?_
    intro w3 hg3
    rw [decide_eq_true (rfl : qx = qx)]
    go_wp2_with fail
    refine hK.out _ _ (hH.trans hg3) (fun hH2 => ?_)
    clear hK K hH
    have hH := hH2
    clear hH2
    try simp only [List.getElem_toArray, List.getElem_cons_succ, List.getElem_cons_zero, Act.put, List.setIfInBounds_toArray, List.set_cons_zero, List.set_cons_succ]
    clear hg3
    refine wpAnyH_take (i := 11) (v := .bool false) rfl (by kernel_rfl) (by kernel_rfl) (by kernel_rfl) (fun _ _ _ h => h) (Or.inl ⟨by rfl, ?_⟩) hH ?_
    · intro w9 hw9
      go_simp
    try simp only [List.getElem_toArray, List.getElem_cons_succ, List.getElem_cons_zero, Act.put, List.setIfInBounds_toArray, List.set_cons_zero, List.set_cons_succ]
    refine wpAnyH_take (i := 12) (v := .bool false) rfl (by kernel_rfl) (by kernel_rfl) (by kernel_rfl) (fun _ _ _ h => h) (Or.inl ⟨by rfl, ?_⟩) hH ?_
    · intro w9 hw9
      go_simp
    try simp only [List.getElem_toArray, List.getElem_cons_succ, List.getElem_cons_zero, Act.put, List.setIfInBounds_toArray, List.set_cons_zero, List.set_cons_succ]
    refine wpAnyH_take (i := 13) (v := .slice (some ⟨b, o, none⟩) s.tests.length xc) rfl (by kernel_rfl) (by kernel_rfl) (by kernel_rfl) (fun _ _ _ h => h) (Or.inl ⟨by rfl, ?_⟩) hH ?_
    · intro w9 hw9
      go_simp
    try simp only [List.getElem_toArray, List.getElem_cons_succ, List.getElem_cons_zero, Act.put, List.setIfInBounds_toArray, List.set_cons_zero, List.set_cons_succ]
    refine wpAnyH_take (i := 14) (v := .int .i64 (k : Nat)) rfl (by kernel_rfl) (by kernel_rfl) (by kernel_rfl) (fun _ _ _ h => h) (Or.inl ⟨by rfl, ?_⟩) hH ?_
    · intro w9 hw9
      go_simp
    try simp only [List.getElem_toArray, List.getElem_cons_succ, List.getElem_cons_zero, Act.put, List.setIfInBounds_toArray, List.set_cons_zero, List.set_cons_succ]
    refine wpAnyH_take (i := 15) (v := .pointer (some ⟨b, o + k * 3, none⟩)) rfl (by kernel_rfl) (by kernel_rfl) (by kernel_rfl) (fun _ _ _ h => h) (Or.inl ⟨by rfl, ?_⟩) hH ?_
    · intro w9 hw9
      go_simp
    try simp only [List.getElem_toArray, List.getElem_cons_succ, List.getElem_cons_zero, Act.put, List.setIfInBounds_toArray, List.set_cons_zero, List.set_cons_succ]
    refine wpAnyH_take (i := 16) (v := .pointer (some ⟨b, o + k * 3 + 1, none⟩)) rfl (by kernel_rfl) (by kernel_rfl) (by kernel_rfl) (fun _ _ _ h => h) (Or.inl ⟨by rfl, ?_⟩) hH ?_
    · intro w9 hw9
      go_simp
    try simp only [List.getElem_toArray, List.getElem_cons_succ, List.getElem_cons_zero, Act.put, List.setIfInBounds_toArray, List.set_cons_zero, List.set_cons_succ]
    refine wpAnyH_take (i := 17) (v := .int .i64 qo) rfl (by kernel_rfl) (by kernel_rfl) (by kernel_rfl) (fun _ _ _ h => h) (Or.inl ⟨by rfl, ?_⟩) hH ?_
    · intro w9 hw9
      have z9 := Grow.cell hw9 c1
      go_simp
    try simp only [List.getElem_toArray, List.getElem_cons_succ, List.getElem_cons_zero, Act.put, List.setIfInBounds_toArray, List.set_cons_zero, List.set_cons_succ]
    refine wpAnyH_take (i := 18) (v := .slice (some ⟨b2, o2, none⟩) s.tests.length yc) rfl (by kernel_rfl) (by kernel_rfl) (by kernel_rfl) (fun _ _ _ h => h) (Or.inl ⟨by rfl, ?_⟩) hH ?_
    · intro w9 hw9
      go_simp
    try simp only [List.getElem_toArray, List.getElem_cons_succ, List.getElem_cons_zero, Act.put, List.setIfInBounds_toArray, List.set_cons_zero, List.set_cons_succ]
    refine wpAnyH_take (i := 19) (v := .int .i64 (k : Nat)) rfl (by kernel_rfl) (by kernel_rfl) (by kernel_rfl) (fun _ _ _ h => h) (Or.inl ⟨by rfl, ?_⟩) hH ?_
    · intro w9 hw9
      go_simp
    try simp only [List.getElem_toArray, List.getElem_cons_succ, List.getElem_cons_zero, Act.put, List.setIfInBounds_toArray, List.set_cons_zero, List.set_cons_succ]
    refine wpAnyH_take (i := 20) (v := .pointer (some ⟨b2, o2 + k * 3, none⟩)) rfl (by kernel_rfl) (by kernel_rfl) (by kernel_rfl) (fun _ _ _ h => h) (Or.inl ⟨by rfl, ?_⟩) hH ?_
    · intro w9 hw9
      go_simp
    try simp only [List.getElem_toArray, List.getElem_cons_succ, List.getElem_cons_zero, Act.put, List.setIfInBounds_toArray, List.set_cons_zero, List.set_cons_succ]
    refine wpAnyH_take (i := 21) (v := .pointer (some ⟨b2, o2 + k * 3 + 1, none⟩)) rfl (by kernel_rfl) (by kernel_rfl) (by kernel_rfl) (fun _ _ _ h => h) (Or.inl ⟨by rfl, ?_⟩) hH ?_
    · intro w9 hw9
      go_simp
    try simp only [List.getElem_toArray, List.getElem_cons_succ, List.getElem_cons_zero, Act.put, List.setIfInBounds_toArray, List.set_cons_zero, List.set_cons_succ]
    refine wpAnyH_take (i := 22) (v := .int .i64 qo) rfl (by kernel_rfl) (by kernel_rfl) (by kernel_rfl) (fun _ _ _ h => h) (Or.inl ⟨by rfl, ?_⟩) hH ?_
    · intro w9 hw9
      have z9 := Grow.cell hw9 d1
      go_simp
    try simp only [List.getElem_toArray, List.getElem_cons_succ, List.getElem_cons_zero, Act.put, List.setIfInBounds_toArray, List.set_cons_zero, List.set_cons_succ]
    refine wpAnyH_take (i := 23) (v := .bool false) rfl (by kernel_rfl) (by kernel_rfl) (by kernel_rfl) (fun _ _ _ h => h) (Or.inl ⟨by rfl, ?_⟩) hH ?_
    · intro w9 hw9
      go_simp
    try simp only [List.getElem_toArray, List.getElem_cons_succ, List.getElem_cons_zero, Act.put, List.setIfInBounds_toArray, List.set_cons_zero, List.set_cons_succ]
    refine wpAnyH_take (i := 24) (v := .bool false) rfl (by kernel_rfl) (by kernel_rfl) (by kernel_rfl) (fun _ _ _ h => h) (Or.inl ⟨by rfl, ?_⟩) hH ?_
    · intro w9 hw9
      go_simp
    try simp only [List.getElem_toArray, List.getElem_cons_succ, List.getElem_cons_zero, Act.put, List.setIfInBounds_toArray, List.set_cons_zero, List.set_cons_succ]
    refine wpAnyH_take (i := 25) (v := .bool false) rfl (by kernel_rfl) (by kernel_rfl) (by kernel_rfl) (fun _ _ _ h => h) (Or.inl ⟨by rfl, ?_⟩) hH ?_
    · intro w9 hw9
      go_simp
    try simp only [List.getElem_toArray, List.getElem_cons_succ, List.getElem_cons_zero, Act.put, List.setIfInBounds_toArray, List.set_cons_zero, List.set_cons_succ]
    refine wpAnyH_take (i := 26) (v := .slice (some ⟨b, o, none⟩) s.tests.length xc) rfl (by kernel_rfl) (by kernel_rfl) (by kernel_rfl) (fun _ _ _ h => h) (Or.inl ⟨by rfl, ?_⟩) hH ?_
    · intro w9 hw9
      go_simp
    try simp only [List.getElem_toArray, List.getElem_cons_succ, List.getElem_cons_zero, Act.put, List.setIfInBounds_toArray, List.set_cons_zero, List.set_cons_succ]
    refine wpAnyH_take (i := 27) (v := .int .i64 (k : Nat)) rfl (by kernel_rfl) (by kernel_rfl) (by kernel_rfl) (fun _ _ _ h => h) (Or.inl ⟨by rfl, ?_⟩) hH ?_
    · intro w9 hw9
      go_simp
    try simp only [List.getElem_toArray, List.getElem_cons_succ, List.getElem_cons_zero, Act.put, List.setIfInBounds_toArray, List.set_cons_zero, List.set_cons_succ]
    refine wpAnyH_take (i := 28) (v := .pointer (some ⟨b, o + k * 3, none⟩)) rfl (by kernel_rfl) (by kernel_rfl) (by kernel_rfl) (fun _ _ _ h => h) (Or.inl ⟨by rfl, ?_⟩) hH ?_
    · intro w9 hw9
      go_simp
    try simp only [List.getElem_toArray, List.getElem_cons_succ, List.getElem_cons_zero, Act.put, List.setIfInBounds_toArray, List.set_cons_zero, List.set_cons_succ]
    refine wpAnyH_take (i := 29) (v := .pointer (some ⟨b, o + k * 3 + 2, none⟩)) rfl (by kernel_rfl) (by kernel_rfl) (by kernel_rfl) (fun _ _ _ h => h) (Or.inl ⟨by rfl, ?_⟩) hH ?_
    · intro w9 hw9
      go_simp
    try simp only [List.getElem_toArray, List.getElem_cons_succ, List.getElem_cons_zero, Act.put, List.setIfInBounds_toArray, List.set_cons_zero, List.set_cons_succ]
    refine wpAnyH_take (i := 30) (v := .int .i64 qw) rfl (by kernel_rfl) (by kernel_rfl) (by kernel_rfl) (fun _ _ _ h => h) (Or.inl ⟨by rfl, ?_⟩) hH ?_
    · intro w9 hw9
      have z9 := Grow.cell hw9 c2
      go_simp
    try simp only [List.getElem_toArray, List.getElem_cons_succ, List.getElem_cons_zero, Act.put, List.setIfInBounds_toArray, List.set_cons_zero, List.set_cons_succ]
    refine wpAnyH_take (i := 31) (v := .slice (some ⟨b2, o2, none⟩) s.tests.length yc) rfl (by kernel_rfl) (by kernel_rfl) (by kernel_rfl) (fun _ _ _ h => h) (Or.inl ⟨by rfl, ?_⟩) hH ?_
    · intro w9 hw9
      go_simp
    try simp only [List.getElem_toArray, List.getElem_cons_succ, List.getElem_cons_zero, Act.put, List.setIfInBounds_toArray, List.set_cons_zero, List.set_cons_succ]
    refine wpAnyH_take (i := 32) (v := .int .i64 (k : Nat)) rfl (by kernel_rfl) (by kernel_rfl) (by kernel_rfl) (fun _ _ _ h => h) (Or.inl ⟨by rfl, ?_⟩) hH ?_
    · intro w9 hw9
      go_simp
    try simp only [List.getElem_toArray, List.getElem_cons_succ, List.getElem_cons_zero, Act.put, List.setIfInBounds_toArray, List.set_cons_zero, List.set_cons_succ]
    refine wpAnyH_take (i := 33) (v := .pointer (some ⟨b2, o2 + k * 3, none⟩)) rfl (by kernel_rfl) (by kernel_rfl) (by kernel_rfl) (fun _ _ _ h => h) (Or.inl ⟨by rfl, ?_⟩) hH ?_
    · intro w9 hw9
      go_simp
    try simp only [List.getElem_toArray, List.getElem_cons_succ, List.getElem_cons_zero, Act.put, List.setIfInBounds_toArray, List.set_cons_zero, List.set_cons_succ]
    refine wpAnyH_take (i := 34) (v := .pointer (some ⟨b2, o2 + k * 3 + 2, none⟩)) rfl (by kernel_rfl) (by kernel_rfl) (by kernel_rfl) (fun _ _ _ h => h) (Or.inl ⟨by rfl, ?_⟩) hH ?_
    · intro w9 hw9
      go_simp
    try simp only [List.getElem_toArray, List.getElem_cons_succ, List.getElem_cons_zero, Act.put, List.setIfInBounds_toArray, List.set_cons_zero, List.set_cons_succ]
    refine wpAnyH_take (i := 35) (v := .int .i64 qw) rfl (by kernel_rfl) (by kernel_rfl) (by kernel_rfl) (fun _ _ _ h => h) (Or.inl ⟨by rfl, ?_⟩) hH ?_
    · intro w9 hw9
      have z9 := Grow.cell hw9 d2
      go_simp
    try simp only [List.getElem_toArray, List.getElem_cons_succ, List.getElem_cons_zero, Act.put, List.setIfInBounds_toArray, List.set_cons_zero, List.set_cons_succ]
    refine wpAnyH_take (i := 36) (v := .bool false) rfl (by kernel_rfl) (by kernel_rfl) (by kernel_rfl) (fun _ _ _ h => h) (Or.inl ⟨by rfl, ?_⟩) hH ?_
    · intro w9 hw9
      go_simp
    try simp only [List.getElem_toArray, List.getElem_cons_succ, List.getElem_cons_zero, Act.put, List.setIfInBounds_toArray, List.set_cons_zero, List.set_cons_succ]
    refine wpAnyH_take (i := 37) (v := .bool false) rfl (by kernel_rfl) (by kernel_rfl) (by kernel_rfl) (fun _ _ _ h => h) (Or.inl ⟨by rfl, ?_⟩) hH ?_
    · intro w9 hw9
      go_simp
    try simp only [List.getElem_toArray, List.getElem_cons_succ, List.getElem_cons_zero, Act.put, List.setIfInBounds_toArray, List.set_cons_zero, List.set_cons_succ]
    refine wpAnyH_done (by kernel_rfl) ?_ _
    have HG3 := Lib.hid (HGR.out.trans hH)
    clear hH c0 c1 c2 d0 d1 d2
    go_wp2_with fail
    go_roundw
    case rel => exact ⟨k + 1, by omega, by go_num, HG3.out⟩
    case measure => simp [intOf]; omega
  obtain rfl : k = s.tests.length := by omega
  have hltz : ¬ (s.tests.length : Int) < (s.tests.length : Int) := by omega
  obtain ⟨w3, hw3⟩ : ∃ z : World, z = wr := ⟨_, rfl⟩
  rw [← hw3] at HGR ⊢
  have HG3 := Lib.hid (HG2.out.trans HGR.out)
  clear hw3 hlt hk HX3 HY3 HPA HGR HG2 x1 x2 y1 y2
  go_wp2_with fail
  refine History_any H B s _ (HH.out.grow HG3.out) HOK.out _ ?_
  intro w4 hv base4 L hg4 hb4 hn4 hl4 hx4
  have HG4 := Lib.hid (HG3.out.trans hg4)
  have HL4 := Lib.hid hl4
  have HLX := Lib.hid hx4
  clear hg4 hb4 hn4 hl4 hx4
  go_wp2_with fail
  refine History_any H2 B2 s _ (HK.out.grow HG4.out) HOK.out _ ?_
  intro w5 kv base5 M hg5 hb5 hn5 hl5 hx5
  have HG5 := Lib.hid (HG4.out.trans hg5)
  have HL5 := Lib.hid (HL4.out.grow hg5)
  have HM5 := Lib.hid hl5
  have HMX := Lib.hid hx5
  have hLl : L.length = s.hist.length := by rw [← HLX.out]; simp
  have hMl : M.length = s.hist.length := by rw [← hx5]; simp
  have hh8 := HOK.out.h8
  obtain ⟨la, lc, rfl, l1, l2, jk1⟩ := HL5.out.at_
  obtain ⟨ma, mc, rfl, m1, m2, jk2⟩ := HM5.out.at_
  rw [hLl] at l1 ⊢
  rw [hMl] at m1 ⊢
  have HL6 := Lib.hid (show LlAt 5 encE w5 (.slice la s.hist.length lc) L by rw [← hLl]; exact HL5.out)
  have HM6 := Lib.hid (show LlAt 5 encE w5 (.slice ma s.hist.length mc) M by rw [← hMl]; exact HM5.out)
  have HPA := Lib.hid (fun (k : Nat) (hk : k < s.hist.length) => pair_at HLX.out HMX.out hk)
  clear hg5 hb5 hn5 hl5 hx5 jk1 jk2 hLl hMl HL4 HL5 HM5 HG3 HG4
  go_wp2_with fail
  go_loopw [10] (fun s10 wr => ∃ k : Nat, k ≤ s.hist.length ∧ s10 = .int .i64 k ∧ Grow w5 wr) (fun s10 _ => s.hist.length - (intOf s10).toNat)
  case atStart => exact ⟨0, Nat.zero_le _, rfl, Grow.refl _⟩
  case round =>
  obtain ⟨k, hk, rfl, hgr⟩ := hrel
  have HGR := Lib.hid hgr
  clear hgr
  by_cases hlt : k < s.hist.length
  · have hltz : (k : Int) < (s.hist.length : Int) := by omega
    obtain ⟨t, u, ht, hu, htu⟩ := HPA.out k hlt
    obtain ⟨b, o, rfl, hb, c0⟩ := lo_at (HL6.out.grow HGR.out).at_ ht
    obtain ⟨b2, o2, rfl, hb2, d0⟩ := lo_at (HM6.out.grow HGR.out).at_ hu
    have HI := Lib.hid ((HL6.out.grow HGR.out).ins t (List.mem_of_getElem? ht))
    have HJ := Lib.hid ((HM6.out.grow HGR.out).ins u (List.mem_of_getElem? hu))
    obtain ⟨ta, tn, tc, x⟩ := t
    obtain ⟨ua, un, uc, y⟩ := u
    dsimp only at c0 d0 HI HJ htu
    subst htu
    have htn : tn = x.length := by obtain ⟨_, _, e, _⟩ := HI.out; cases e; rfl
    have hun : un = x.length := by obtain ⟨_, _, e, _⟩ := HJ.out; cases e; rfl
    subst htn
    subst hun
    have hxx : x.length ≤ 9223372036854775807 := by obtain ⟨_, _, _, h1, h2, _⟩ := HI.out; omega
    obtain ⟨w6, hw6⟩ : ∃ z : World, z = wr := ⟨_, rfl⟩
    rw [← hw6] at HGR HI HJ c0 d0 hb hb2 ⊢
    have C0 := Lib.hid c0
    have D0 := Lib.hid d0
    clear ht hu hw6
    go_wp2_with (go_quiet (fail))
    go_loopw [11] (fun s11 wr => ∃ j : Nat, j ≤ x.length ∧ s11 = .int .i64 j ∧ Grow w6 wr) (fun s11 _ => x.length - (intOf s11).toNat)
    case atStart => exact ⟨0, Nat.zero_le _, rfl, by first | exact Grow.refl _ | exact (Grow.refl w6).drewN _⟩
    case round =>
    obtain ⟨j, hj, rfl, hgj⟩ := hrel
    have HGJ := Lib.hid hgj
    have c0 := hgj.cell C0.out
    have d0 := hgj.cell D0.out
    have hzj := hgj.sz
    have nb : b < wr.heap.size := by omega
    have nb2 : b2 < wr.heap.size := by omega
    clear hgj
    by_cases hjt : j < x.length
    · have hjtz : (j : Int) < (x.length : Int) := by omega
      obtain ⟨⟨et, op, d, a, z⟩, hx⟩ : ∃ e, x[j]? = some e := ⟨_, List.getElem?_eq_getElem hjt⟩
      obtain ⟨eb, eo, rfl, hbe, e0, e1, e2, e3, e4⟩ := edits_at (HI.out.grow HGJ.out) hx
      obtain ⟨fb, fo, rfl, hbf, f0, f1, f2, f3, f4⟩ := edits_at (HJ.out.grow HGJ.out) hx
      clear hx
      go_wp2_with (go_quiet (fail))
      go_roundw
      case rel => exact ⟨j + 1, by omega, by go_num, by first | exact HGJ.out | exact HGJ.out.drewN _⟩
      case measure => simp [intOf]; omega
    · obtain rfl : j = x.length := by omega
      have hjtz : ¬ (x.length : Int) < (x.length : Int) := by omega
      have HGN := Lib.hid (HGR.out.trans HGJ.out)
      clear c0 d0
      have c0 := HGJ.out.cell C0.out
      go_wp2_with fail
      go_roundw
      case rel => exact ⟨k + 1, by omega, by go_num, HGN.out⟩
      case measure => simp [intOf]; omega
  obtain rfl : k = s.hist.length := by omega
  have hltz : ¬ (s.hist.length : Int) < (s.hist.length : Int) := by omega
  obtain ⟨w6, hw6⟩ : ∃ z : World, z = wr := ⟨_, rfl⟩
  rw [← hw6] at HGR ⊢
  have HG6 := Lib.hid (HG5.out.trans HGR.out)
  clear hw6 hlt hk HL6 HM6 HPA HGR HG5 l1 l2 m1 m2
  go_wp2_with fail
  refine Counts_any H B s _ (HH.out.grow HG6.out) _ ?_
  intro w7 hg7
  have HG7 := Lib.hid (HG6.out.trans hg7)
  obtain ⟨fx, hfx⟩ : ∃ z, s.fixes = z := ⟨_, rfl⟩
  obtain ⟨cx, hcx⟩ : ∃ z, s.checks = z := ⟨_, rfl⟩
  rw [hfx, hcx]
  have HFX := Lib.hid hfx
  have HCX := Lib.hid hcx
  clear hg7 hfx hcx
  go_wp2_with fail
  refine Counts_any H2 B2 s _ (HK.out.grow HG7.out) _ ?_
  intro w8 hg8
  rw [HFX.out, HCX.out]
  have HG8 := Lib.hid (HG7.out.trans hg8)
  clear hg8
  go_wp2_with fail
  refine Program_any H B s _ (HH.out.grow HG8.out) HOK.out _ ?_
  intro w9 p9 base9 hg9 hb9 ho9
  have HP9 := Lib.hid (show LinesAt w9 p9 s.prog from slc_of_owns encL_len ho9)
  have HG9 := Lib.hid (HG8.out.trans hg9)
  clear hg9 hb9 ho9
  go_wp2_with fail
  refine Program_any H2 B2 s _ (HK.out.grow HG9.out) HOK.out _ ?_
  intro w10 p10 base10 hg10 hb10 ho10
  have HQ10 := Lib.hid (show LinesAt w10 p10 s.prog from slc_of_owns encL_len ho10)
  have HP10 := Lib.hid (HP9.out.grow hg10)
  have HG10 := Lib.hid (HG9.out.trans hg10)
  clear hg10 hb10 ho10
  go_wp2_with fail
  refine rsame1_any s.prog s.prog _ _ _ HP10.out HQ10.out _ ?_
  intro w11 hg11
  rw [decide_eq_true (rfl : s.prog = s.prog)]
  have HG11 := Lib.hid (HG10.out.trans hg11)
  clear hg11 HP9 HP10 HQ10
  go_wp2_with fail
  refine Locked_any H B s _ (HH.out.grow HG11.out) HOK.out _ ?_
  intro w12 p12 base12 hg12 hb12 ho12
  have HP12 := Lib.hid (show IntsAt w12 p12 s.lk from slc_of_owns encI_len ho12)
  have HG12 := Lib.hid (HG11.out.trans hg12)
  clear hg12 hb12 ho12
  go_wp2_with fail
  refine Locked_any H2 B2 s _ (HK.out.grow HG12.out) HOK.out _ ?_
  intro w13 p13 base13 hg13 hb13 ho13
  have HQ13 := Lib.hid (show IntsAt w13 p13 s.lk from slc_of_owns encI_len ho13)
  have HP13 := Lib.hid (HP12.out.grow hg13)
  have HG13 := Lib.hid (HG12.out.trans hg13)
  clear hg13 hb13 ho13
  go_wp2_with fail
  refine rsameI1_any s.lk s.lk _ _ _ HP13.out HQ13.out _ ?_
  intro w14 hg14
  rw [decide_eq_true (rfl : s.lk = s.lk)]
  have HG14 := Lib.hid (HG13.out.trans hg14)
  clear hg14 HP12 HP13 HQ13
  go_wp2_with fail
  refine Failing9_any H B s _ (HH.out.grow HG14.out) HOK.out _ ?_
  intro w15 p15 base15 hg15 hb15 ho15
  have HP15 := Lib.hid (show IntsAt w15 p15 (failB s.prog s.tests) from ho15.slc encI_len)
  have HG15 := Lib.hid (HG14.out.trans hg15)
  clear hg15 hb15 ho15
  go_wp2_with fail
  refine Failing9_any H2 B2 s _ (HK.out.grow HG15.out) HOK.out _ ?_
  intro w16 p16 base16 hg16 hb16 ho16
  have HQ16 := Lib.hid (show IntsAt w16 p16 (failB s.prog s.tests) from ho16.slc encI_len)
  have HP16 := Lib.hid (HP15.out.grow hg16)
  have HG16 := Lib.hid (HG15.out.trans hg16)
  clear hg16 hb16 ho16
  go_wp2_with fail
  refine rsameI1_any (failB s.prog s.tests) (failB s.prog s.tests) _ _ _ HP16.out HQ16.out _ ?_
  intro w17 hg17
  rw [decide_eq_true (rfl : failB s.prog s.tests = failB s.prog s.tests)]
  have HG17 := Lib.hid (HG16.out.trans hg17)
  clear hg17 HP15 HP16 HQ16
  go_wp2_with fail
  refine Book_any H B s _ (HG.out.grow HG17.out) (HH.out.grow HG17.out) HOK.out _ ?_
  intro w18 hg18
  have HG18 := Lib.hid (HG17.out.trans hg18)
  obtain ⟨T, hT⟩ : ∃ z, tb (bkS s.orders) = z := ⟨_, rfl⟩
  have HT := Lib.hid hT
  rw [hT]
  clear hg18 hT
  go_wp2_with fail
  refine Book_any H2 B2 s _ (HG.out.grow HG18.out) (HK.out.grow HG18.out) HOK.out _ ?_
  intro w19 hg19
  rw [HT.out]
  have HF := Lib.hid (HR.out w19 (HG18.out.trans hg19))
  clear hg19
  go_wp2_with fail
  exact HF.out
end Go.Proofs.YtgjppekjkofdiaaGreatDoor

namespace Go.Proofs.YtgjppekjkofdiaaGreatDoor
open Go.RowKit

theorem texts_keep {H : Nat → Bool} {w w' : World} {v : Value} {l : List ByteArray} (h : TextsAt (hideW H w) v l) (h' : TextsAt w' v l) : TextsAt (hideW H w') v l := by
  refine SlcAt.hide h' fun b o n c e => ?_
  by_cases hne : l = []
  · exact .inr hne
  · left
    obtain ⟨t0, ht0⟩ : ∃ t, l[0]? = some t := ⟨_, List.getElem?_eq_getElem (List.length_pos_iff.2 hne)⟩
    subst e
    obtain ⟨b', o', e3, _, hc⟩ := texts_at h ht0
    cases e3
    exact (hide_cell hc).2
set_option maxRecDepth 100000 in
set_option maxHeartbeats 16000000 in
theorem topReplay_any (p : List Ln) (l : List ByteArray) (n : Int) (v u : Value) (w : World) (hg : Glob w) (hp : LinesAt w v p) (hpl : p.length < 10000000000) (hl : TextsAt w u l) (hsz : ∀ t ∈ l, t.size < 4294967281) (R : Ending → World → Prop) (hR : ∀ w', Grow w w' → R (.returned (.bool true)) w') :
    Calls Tryz.prog 7 #[.agg #[v, u, .int .i64 n]] w R := by
  have HR := Lib.hid hR
  have HG := Lib.hid hg
  have HP := Lib.hid hp
  have HL := Lib.hid hl
  have HSZ := Lib.hid hsz
  have hgs := hg.size
  obtain ⟨pa, pc, rfl, p1, p2, jk⟩ := hp
  obtain ⟨ua, uc, rfl, ul1, ul2, jk2⟩ := hl
  clear hR hg hsz jk jk2
  go_enter Tryz.func7, Tryz.ntmps7
  have hb := heap_alloc_new w (.cells #[.slice pa p.length pc, .slice ua l.length uc, .int .i64 n] 57)
  have hg0 := (Grow.refl w).alloc (.cells #[.slice pa p.length pc, .slice ua l.length uc, .int .i64 n] 57)
  go_wp2_with fail
  generalize w.alloc (.cells #[.slice pa p.length pc, .slice ua l.length uc, .int .i64 n] 57) = W at hb hg0 ⊢
  refine Sum_any 0 ⟨#[99, 104, 101, 99, 107]⟩ _ (by decide) _ ?_
  intro w1 hg1
  rw [show Bk.sumS 0 (⟨#[99, 104, 101, 99, 107]⟩ : ByteArray).data.toList = 821069 from by kernel_rfl]
  have HB1 := Lib.hid (hg1.blk hb)
  have HG1 := Lib.hid (hg0.trans hg1)
  obtain ⟨c0, c1, c2⟩ := box3 HB1.out
  clear hb hg0 hg1
  go_wp2_with fail
  refine firm_any p l n _ _ _ (HG.out.grow HG1.out) (HP.out.grow HG1.out) hpl (HL.out.grow HG1.out) HSZ.out _ ?_ ?_
  · intro _ w2 hg2
    have HF := Lib.hid (HR.out w2 (HG1.out.trans hg2))
    clear hg2 c0 c1 c2
    go_wp2_with fail
    exact HF.out
  intro h0 w2 B dv S base hg2 hB hBb hbn hok hrep h24 how
  have hw1 := HG1.out.sz
  have hwB : w.heap.size < B := by omega
  have HG2 := Lib.hid (HG1.out.trans hg2)
  have HB2 := Lib.hid (hg2.blk HB1.out)
  have HBN := Lib.hid hbn
  have HOK := Lib.hid hok
  have HREP := Lib.hid hrep
  have H0 := Lib.hid h0
  have HD2 := Lib.hid (slc_of_owns encTx_len how)
  have ho80 := hok.ord
  have hbb := bk_bound hok
  have hbl2 := hbn.hid.bd B (by simp)
  have hB4 : 4 < B := by omega
  obtain ⟨da, dc, rfl, d1, d2, jk⟩ := slc_of_owns encTx_len how
  obtain ⟨A, hA⟩ : ∃ A, bkS S.orders = A := ⟨_, rfl⟩
  have HAS := Lib.hid hA
  have htbs := tb_size A
  have hbook := hrep.book hok h0
  rw [hA] at hbb hbook
  have HBK := Lib.hid hbook
  have hpv : (tb A).size ≤ 1000000000 := by omega
  have HPV := Lib.hid hpv
  clear hg2 hbn hok hrep h0 how jk c0 c1 c2 HB1 hA hbook hpv
  go_wp2_with fail
  refine wp_region_held_drew (S := fun X => Grow w2 X) (by kernel_rfl) ((Grow.refl w2).drew) (fun hH => ?_)
  refine wpAnyH_take (i := 0) (v := .pointer (some ⟨w.heap.size, 0, none⟩)) rfl (by kernel_rfl) (by kernel_rfl) (by kernel_rfl) (fun _ _ _ h => h) (Or.inl ⟨by rfl, ?_⟩) hH ?_
  · intro w9 hw9
    go_simp
  try simp only [List.getElem_toArray, List.getElem_cons_zero, Act.put, List.setIfInBounds_toArray, List.set_cons_zero, List.set_cons_succ]
  refine wpAnyH_take (i := 1) (v := .slice pa p.length pc) rfl (by kernel_rfl) (by kernel_rfl) (by kernel_rfl) (fun _ _ _ h => h) (Or.inl ⟨by rfl, ?_⟩) hH ?_
  · intro w9 hw9
    obtain ⟨z0, z1, z2⟩ := box3 (Grow.blk hw9 HB2.out)
    go_simp
  try simp only [List.getElem_toArray, List.getElem_cons_succ, List.getElem_cons_zero, Act.put, List.setIfInBounds_toArray, List.set_cons_zero, List.set_cons_succ]
  refine wpAnyH_take (i := 2) (v := .pointer (some ⟨B, 0, none⟩)) rfl (by kernel_rfl) (by kernel_rfl) (by kernel_rfl) (fun _ _ _ h => h) (Or.inl ⟨by rfl, ?_⟩) hH ?_
  · intro w9 hw9
    go_simp
  try simp only [List.getElem_toArray, List.getElem_cons_succ, List.getElem_cons_zero, Act.put, List.setIfInBounds_toArray, List.set_cons_zero, List.set_cons_succ]
  refine wpAnyH_ready (rs := [3]) (by kernel_rfl) (by simp) ?_
  refine AllReadyH.cons rfl (fun K hK => ?_) AllReadyH.nil
  go_simp
  refine Book_any (fun k => k == B) B S _ (HG.out.grow (HG2.out.trans hH)) (HBN.out.grow hH) HOK.out _ ?_
  intro w3 hg3
  rw [HAS.out]
  go_wp2_with fail
  refine hK.out _ _ (hH.trans hg3) (fun hH2 => ?_)
  clear hK K hH
  have hH := hH2
  clear hH2
  try simp only [List.getElem_toArray, List.getElem_cons_succ, List.getElem_cons_zero, Act.put, List.setIfInBounds_toArray, List.set_cons_zero, List.set_cons_succ]
  clear hg3
  refine wpAnyH_ready (rs := [4]) (by kernel_rfl) (by simp) ?_
  refine AllReadyH.cons rfl (fun K hK => ?_) AllReadyH.nil
  go_simp
  refine Replay_any p _ (tb A) _ (HG.out.grow (HG2.out.trans hH)) (HP.out.grow (HG2.out.trans hH)) hpl HPV.out _ ?_ ?_
  · intro n9 e9 he9; rw [HBK.out] at he9; cases he9
  intro s9 n9 e9 he9 w4 B1 hg4 hB1 hb1 ok9
  obtain ⟨rfl, rfl, rfl⟩ : S = s9 ∧ ((S.orders.length : Nat) : Int) = n9 ∧ (0 : Int) = e9 := by
    rw [HBK.out] at he9
    injection he9 with h1 h2
    injection h1 with h1
    injection h2 with h2 h3
    exact ⟨h1, h2, h3⟩
  have HV := Lib.hid hb1
  clear he9 hb1 ok9
  go_wp2_with fail
  refine hK.out _ _ (hH.trans hg4) (fun hH2 => ?_)
  clear hK K hH
  have hH := hH2
  clear hH2
  try simp only [List.getElem_toArray, List.getElem_cons_succ, List.getElem_cons_zero, Act.put, List.setIfInBounds_toArray, List.set_cons_zero, List.set_cons_succ]
  clear hg4
  refine wpAnyH_take (i := 5) (v := .tuple #[.pointer (some ⟨B1, 0, none⟩), .int .i64 (S.orders.length : Nat), .int .i64 0]) rfl (by kernel_rfl) (by kernel_rfl) (by kernel_rfl) (fun _ _ _ h => h) (Or.inl ⟨by rfl, ?_⟩) hH ?_
  · intro w9 hw9
    go_simp
  try simp only [List.getElem_toArray, List.getElem_cons_succ, List.getElem_cons_zero, Act.put, List.setIfInBounds_toArray, List.set_cons_zero, List.set_cons_succ]
  refine wpAnyH_take (i := 6) (v := .pointer (some ⟨B1, 0, none⟩)) rfl (by kernel_rfl) (by kernel_rfl) (by kernel_rfl) (fun _ _ _ h => h) (Or.inl ⟨by rfl, ?_⟩) hH ?_
  · intro w9 hw9
    go_simp
  try simp only [List.getElem_toArray, List.getElem_cons_succ, List.getElem_cons_zero, Act.put, List.setIfInBounds_toArray, List.set_cons_zero, List.set_cons_succ]
  refine wpAnyH_take (i := 7) (v := .int .i64 (S.orders.length : Nat)) rfl (by kernel_rfl) (by kernel_rfl) (by kernel_rfl) (fun _ _ _ h => h) (Or.inl ⟨by rfl, ?_⟩) hH ?_
  · intro w9 hw9
    go_simp
  try simp only [List.getElem_toArray, List.getElem_cons_succ, List.getElem_cons_zero, Act.put, List.setIfInBounds_toArray, List.set_cons_zero, List.set_cons_succ]
  refine wpAnyH_take (i := 8) (v := .int .i64 0) rfl (by kernel_rfl) (by kernel_rfl) (by kernel_rfl) (fun _ _ _ h => h) (Or.inl ⟨by rfl, ?_⟩) hH ?_
  · intro w9 hw9
    go_simp
  try simp only [List.getElem_toArray, List.getElem_cons_succ, List.getElem_cons_zero, Act.put, List.setIfInBounds_toArray, List.set_cons_zero, List.set_cons_succ]
  refine wpAnyH_take (i := 9) (v := .pointer (some ⟨B1, 0, none⟩)) rfl (by kernel_rfl) (by kernel_rfl) (by kernel_rfl) (fun _ _ _ h => h) (Or.inl ⟨by rfl, ?_⟩) hH ?_
  · intro w9 hw9
    go_simp
  try simp only [List.getElem_toArray, List.getElem_cons_succ, List.getElem_cons_zero, Act.put, List.setIfInBounds_toArray, List.set_cons_zero, List.set_cons_succ]
  refine wpAnyH_take (i := 10) (v := .int .i64 (S.orders.length : Nat)) rfl (by kernel_rfl) (by kernel_rfl) (by kernel_rfl) (fun _ _ _ h => h) (Or.inl ⟨by rfl, ?_⟩) hH ?_
  · intro w9 hw9
    go_simp
  try simp only [List.getElem_toArray, List.getElem_cons_succ, List.getElem_cons_zero, Act.put, List.setIfInBounds_toArray, List.set_cons_zero, List.set_cons_succ]
  refine wpAnyH_take (i := 11) (v := .int .i64 0) rfl (by kernel_rfl) (by kernel_rfl) (by kernel_rfl) (fun _ _ _ h => h) (Or.inl ⟨by rfl, ?_⟩) hH ?_
  · intro w9 hw9
    go_simp
  try simp only [List.getElem_toArray, List.getElem_cons_succ, List.getElem_cons_zero, Act.put, List.setIfInBounds_toArray, List.set_cons_zero, List.set_cons_succ]
  refine wpAnyH_done (by kernel_rfl) ?_ _
  have HG4 := Lib.hid (HG2.out.trans hH)
  have HB4 := Lib.hid (hH.blk HB2.out)
  have HD4 := Lib.hid (HD2.out.grow hH)
  have HBN4 := Lib.hid (HBN.out.grow hH)
  clear hH HB2 HD2 HBN
  go_wp2_with fail
  refine sameBench_any _ _ B1 B S _ (HG.out.grow HG4.out) HV.out HBN4.out HOK.out _ ?_
  intro w5 hg5
  have HG5 := Lib.hid (HG4.out.trans hg5)
  have HB5 := Lib.hid (hg5.blk HB4.out)
  have HD5 := Lib.hid (HD4.out.grow hg5)
  have HBN5 := Lib.hid (HBN4.out.grow hg5)
  clear hg5 HV HB4 HD4 HBN4
  go_wp2_with fail
  refine Audit_any (fun k => k == B) B S p _ (HG.out.grow HG5.out) HBN5.out HOK.out HREP.out H0.out _ ?_
  intro w6 hg6
  have HG6 := Lib.hid (HG5.out.trans hg6)
  have HB6 := Lib.hid (hg6.blk HB5.out)
  have HD6 := Lib.hid (HD5.out.grow hg6)
  have HBN6 := Lib.hid (HBN5.out.grow hg6)
  obtain ⟨c0, c1, c2⟩ := box3 HB6.out
  obtain ⟨m, hm, hml⟩ := keep_bd n S.orders.length (by omega)
  have hmz : ¬ (m : Int) < 0 := by omega
  have hmd : m ≤ dc := by omega
  have HDM := Lib.hid (show TextsAt w6 (.slice da m dc) (S.orders.take m) from HD6.out.take hml)
  have hmk : (S.orders.take m).length = m := by rw [List.length_take]; omega
  have hw2 := wr_take HOK.out.okL ho80 m
  have hsz2 : ∀ t ∈ S.orders.take m, t.size ≤ 1000000 := fun t ht => HOK.out.tsz t (List.mem_of_mem_take ht)
  have HW2 := Lib.hid hw2
  have HS2 := Lib.hid hsz2
  have hva : (∃ ad, da = some ad) ∨ (da = none ∧ dc = 0) := by
    obtain ⟨a', c', e, _, _, h4⟩ := HD6.out
    cases e
    rcases h4 with ⟨h4, h5⟩ | ⟨b, o, e, _, _⟩
    · cases da with
      | none => exact .inr ⟨rfl, h5 rfl⟩
      | some ad => exact .inl ⟨ad, rfl⟩
    · exact .inl ⟨_, e⟩
  have HVA := Lib.hid hva
  have hbm : (tb (bkS (S.orders.take m))).size ≤ 1000000000 := by
    have h1 := book_len S.orders HOK.out.tsz m hml
    rw [tb_size]; omega
  have HBM := Lib.hid hbm
  clear hg6 HB5 HD5 HBN5 hw2 hsz2 hva hbm
  rcases HVA.out with ⟨ad, rfl⟩ | ⟨rfl, rfl⟩
  · go_wp2_with fail
    refine Write_any (S.orders.take m) _ _ (HG.out.grow HG6.out) HDM.out HS2.out _ ?_
    intro w7 hg7
    rw [HW2.out.1, HW2.out.2]
    have HG7 := Lib.hid (HG6.out.trans hg7)
    have HB7 := Lib.hid (hg7.blk HB6.out)
    have HD7 := Lib.hid (HD6.out.grow hg7)
    have HBN7 := Lib.hid (HBN6.out.grow hg7)
    clear c0 c1 c2
    obtain ⟨c0, c1, c2⟩ := box3 HB7.out
    clear hg7 HB6 HD6 HBN6
    have HRT := Lib.hid (HREP.out.take HOK.out H0.out hml)
    have HST := Lib.hid (HREP.out.stop m hml)
    go_wp2_with fail
    refine Replay_any p _ (tb (bkS (S.orders.take m))) _ (HG.out.grow HG7.out) (HP.out.grow HG7.out) hpl HBM.out _ ?_ ?_
    · intro n9 e9 he9; rw [HRT.out] at he9; cases he9
    intro s9 n9 e9 he9 w8 B2 hg8 hB2 hb2 ok9
    obtain ⟨hs9, rfl, rfl⟩ : dosB (newB p) (S.orders.take m) = s9 ∧ ((m : Nat) : Int) = n9 ∧ (0 : Int) = e9 := by
      rw [HRT.out] at he9
      injection he9 with h1 h2
      injection h1 with h1
      injection h2 with h2 h3
      exact ⟨h1, h2, h3⟩
    rw [← hs9] at hb2 ok9
    have HG8 := Lib.hid (HG7.out.trans hg8)
    have HB8 := Lib.hid (hg8.blk HB7.out)
    have HD8 := Lib.hid (HD7.out.grow hg8)
    have HDP := Lib.hid (HD7.out.old hg8 hB2)
    have HBN8 := Lib.hid (HBN7.out.more hg8 hB2 hb2)
    have HPT8 := Lib.hid hb2
    have HOM := Lib.hid ok9
    have hbB := HBN7.out.hid.bd B (by simp)
    have hB2B : B2 ≠ B := by omega
    have hwB2 : w.heap.size ≤ B2 := Nat.le_trans HG7.out.sz hB2
    have hB24 : 4 < B2 := by omega
    clear c0 c1 c2
    obtain ⟨c0, c1, c2⟩ := box3 HB8.out
    have hbxB2 : w.heap.size ≠ B2 := by have := lt_of_block HB7.out; omega
    clear he9 hs9 hb2 ok9 hbB HB7 HD7 HBN7
    go_wp2_with fail
    refine New_any p _ _ (HP.out.grow HG8.out) hpl _ ?_ ?_
    · intro h9; exact absurd H0.out h9
    intro _ w9 B3 hg9 hB3 hb3
    have HG9 := Lib.hid (HG8.out.trans hg9)
    have HD9 := Lib.hid (HD8.out.old hg9 hB3)
    have HDP9 := Lib.hid (HDP.out.grow (hg9.hid _))
    have HBN9 := Lib.hid (HBN8.out.more hg9 hB3 hb3)
    have HPT9 := Lib.hid (HPT8.out.more hg9 hB3 hb3)
    have HE9 := Lib.hid hb3
    have hbB2 := HPT8.out.hid.bd B2 (by simp)
    have hbB := HBN8.out.hid.bd B HBN8.out.hid.hH
    have hB3B : B3 ≠ B := by omega
    have hB32 : B3 ≠ B2 := by omega
    have hwB3 : w.heap.size ≤ B3 := Nat.le_trans HG8.out.sz hB3
    have hB34 : 4 < B3 := by omega
    have HN0 := Lib.hid (OkB.new H0.out)
    clear hg9 hb3 hbB2 hbB HD8 HDP HBN8 HPT8 c0 c1 c2
    go_wp2_with fail
    go_loopw [15] (fun s15 wr => ∃ k : Nat, k ≤ m ∧ s15 = .int .i64 k ∧ Chg B3 w9 wr ∧ BnAt (fun k => k == B3) B3 wr (dosB (newB p) (S.orders.take k))) (fun s15 _ => m - (intOf s15).toNat)
    case atStart => exact ⟨0, Nat.zero_le _, rfl, chg_refl B3 w9, HE9.out⟩
    case round =>
    obtain ⟨k, hk, rfl, hc, hbn⟩ := hrel
    have HC := Lib.hid hc
    have HBE := Lib.hid hbn
    have HGW := Lib.hid (chg_grow HG9.out hc hwB3)
    clear hc hbn
    by_cases hlt : k < m
    · have hltz : (k : Int) < ((m : Nat) : Int) := by omega
      obtain ⟨t, ht⟩ : ∃ t, S.orders[k]? = some t := ⟨_, List.getElem?_eq_getElem (by omega)⟩
      obtain ⟨b, o, hab, hbl, y0⟩ := texts_at (show TextsAt wr _ S.orders from (HD9.out.grow HC.out).unhide) ht
      cases hab
      have hkn : (k : Int) < (S.orders.length : Int) := by omega
      have hus : t.size < 4294967281 := by have := HOK.out.tsz t (List.mem_of_getElem? ht); omega
      have hde := HREP.out.2 k t ht
      have HU := Lib.hid ht
      have HDE := Lib.hid hde
      clear ht hde
      go_wp2_with fail
      refine bDo_any (fun k => k == B3) B3 t hus (dosB (newB p) (S.orders.take k)) _ (HG.out.grow HGW.out) HBE.out (HN0.out.dos _) hB34 _ ?_
      intro w10 hc10 hb10
      rw [HDE.out]
      have HC10 := Lib.hid (HC.out.trans hc10)
      have HB10 := Lib.hid (show BnAt (fun k => k == B3) B3 w10 (dosB (newB p) (S.orders.take (k + 1))) by rw [dos_snoc HU.out]; exact hb10)
      clear hc10 hb10 y0
      go_wp2_with fail
      go_roundw
      case rel => exact ⟨k + 1, by omega, by go_num, HC10.out, HB10.out⟩
      case measure => simp [intOf]; omega
    obtain rfl : m = k := by omega
    have hltz : ¬ (((m : Nat) : Int) < ((m : Nat) : Int)) := by omega
    obtain ⟨w11, hw11⟩ : ∃ z : World, z = wr := ⟨_, rfl⟩
    rw [← hw11] at HC HBE HGW ⊢
    have HBN11 := Lib.hid (HBN9.out.other HC.out hB3B (by simp [hidN]))
    have HPT11 := Lib.hid (HPT9.out.other HC.out hB32 (by simp [hidN]))
    have HDP11 := Lib.hid (texts_keep HDP9.out (HD9.out.grow HC.out).unhide)
    clear hw11 hlt hk HD9 HDP9 HBN9 HPT9 HC
    go_wp2_with fail
    refine sameBench_any _ _ B2 B3 (dosB (newB p) (S.orders.take m)) _ (HG.out.grow HGW.out) HPT11.out HBE.out HOM.out _ ?_
    intro w12 hg12
    have HG12 := Lib.hid (HGW.out.trans hg12)
    have HBN12 := Lib.hid (HBN11.out.grow hg12)
    have HPT12 := Lib.hid (HPT11.out.grow hg12)
    have HDP12 := Lib.hid (HDP11.out.grow (hg12.hid _))
    clear hg12 HBN11 HPT11 HDP11 HGW HBE
    go_wp2_with fail
    go_loopw [16] (fun s16 wr => ∃ k : Nat, m ≤ k ∧ k ≤ S.orders.length ∧ s16 = .int .i64 k ∧ Chg B2 w12 wr ∧ BnAt (hidN (fun k => k == B2) B3) B2 wr (dosB (newB p) (S.orders.take k))) (fun s16 _ => S.orders.length - (intOf s16).toNat)
    case atStart => exact ⟨m, Nat.le_refl _, hml, rfl, chg_refl B2 w12, HPT12.out⟩
    case round =>
    obtain ⟨k, hkm, hk, rfl, hc, hbn⟩ := hrel
    have HC := Lib.hid hc
    have HBE := Lib.hid hbn
    have HGW := Lib.hid (chg_grow HG12.out hc hwB2)
    clear hc hbn
    by_cases hlt : k < S.orders.length
    · have hltz : (k : Int) < (S.orders.length : Int) := by omega
      obtain ⟨t, ht⟩ : ∃ t, S.orders[k]? = some t := ⟨_, List.getElem?_eq_getElem hlt⟩
      obtain ⟨b, o, hab, hbl, y0⟩ := texts_at (show TextsAt wr _ S.orders from (HDP12.out.grow HC.out).unhide) ht
      cases hab
      have hus : t.size < 4294967281 := by have := HOK.out.tsz t (List.mem_of_getElem? ht); omega
      have hde := HREP.out.2 k t ht
      have HU := Lib.hid ht
      have HDE := Lib.hid hde
      clear ht hde
      go_wp2_with fail
      refine bDo_any _ B2 t hus (dosB (newB p) (S.orders.take k)) _ (HG.out.grow HGW.out) HBE.out (HN0.out.dos _) hB24 _ ?_
      intro w13 hc13 hb13
      rw [HDE.out]
      have HC13 := Lib.hid (HC.out.trans hc13)
      have HB13 := Lib.hid (show BnAt (hidN (fun k => k == B2) B3) B2 w13 (dosB (newB p) (S.orders.take (k + 1))) by rw [dos_snoc HU.out]; exact hb13)
      clear hc13 hb13 y0
      go_wp2_with fail
      go_roundw
      case rel => exact ⟨k + 1, by omega, by omega, by go_num, HC13.out, HB13.out⟩
      case measure => simp [intOf]; omega
    obtain rfl : k = S.orders.length := by omega
    have hltz : ¬ (S.orders.length : Int) < (S.orders.length : Int) := by omega
    have HBN14 := Lib.hid (HBN12.out.other HC.out hB2B (by simp [hidN]))
    have hbe := HBE.out
    rw [List.take_length, HREP.out.1] at hbe
    have HPB := Lib.hid hbe
    clear hbe HBE
    go_wp2_with fail
    refine sameBench_any _ _ B2 B S _ (HG.out.grow HGW.out) HPB.out HBN14.out HOK.out _ ?_
    intro w15 hg15
    have HF := Lib.hid (HR.out w15 (HGW.out.trans hg15))
    clear hg15
    go_wp2_with fail
    exact HF.out
  · obtain rfl : m = 0 := by omega
    go_wp2_with fail
    refine Write_any (S.orders.take 0) _ _ (HG.out.grow HG6.out) HDM.out HS2.out _ ?_
    intro w7 hg7
    rw [HW2.out.1, HW2.out.2]
    have HG7 := Lib.hid (HG6.out.trans hg7)
    have HB7 := Lib.hid (hg7.blk HB6.out)
    have HD7 := Lib.hid (HD6.out.grow hg7)
    have HBN7 := Lib.hid (HBN6.out.grow hg7)
    clear c0 c1 c2
    obtain ⟨c0, c1, c2⟩ := box3 HB7.out
    clear hg7 HB6 HD6 HBN6
    have HRT := Lib.hid (HREP.out.take HOK.out H0.out hml)
    have HST := Lib.hid (HREP.out.stop 0 hml)
    go_wp2_with fail
    refine Replay_any p _ (tb (bkS (S.orders.take 0))) _ (HG.out.grow HG7.out) (HP.out.grow HG7.out) hpl HBM.out _ ?_ ?_
    · intro n9 e9 he9; rw [HRT.out] at he9; cases he9
    intro s9 n9 e9 he9 w8 B2 hg8 hB2 hb2 ok9
    obtain ⟨hs9, rfl, rfl⟩ : dosB (newB p) (S.orders.take 0) = s9 ∧ ((0 : Nat) : Int) = n9 ∧ (0 : Int) = e9 := by
      rw [HRT.out] at he9
      injection he9 with h1 h2
      injection h1 with h1
      injection h2 with h2 h3
      exact ⟨h1, h2, h3⟩
    rw [← hs9] at hb2 ok9
    have HG8 := Lib.hid (HG7.out.trans hg8)
    have HB8 := Lib.hid (hg8.blk HB7.out)
    have HD8 := Lib.hid (HD7.out.grow hg8)
    have HDP := Lib.hid (HD7.out.old hg8 hB2)
    have HBN8 := Lib.hid (HBN7.out.more hg8 hB2 hb2)
    have HPT8 := Lib.hid hb2
    have HOM := Lib.hid ok9
    have hbB := HBN7.out.hid.bd B (by simp)
    have hB2B : B2 ≠ B := by omega
    have hwB2 : w.heap.size ≤ B2 := Nat.le_trans HG7.out.sz hB2
    have hB24 : 4 < B2 := by omega
    clear c0 c1 c2
    obtain ⟨c0, c1, c2⟩ := box3 HB8.out
    have hbxB2 : w.heap.size ≠ B2 := by have := lt_of_block HB7.out; omega
    clear he9 hs9 hb2 ok9 hbB HB7 HD7 HBN7
    go_wp2_with fail
    refine New_any p _ _ (HP.out.grow HG8.out) hpl _ ?_ ?_
    · intro h9; exact absurd H0.out h9
    intro _ w9 B3 hg9 hB3 hb3
    have HG9 := Lib.hid (HG8.out.trans hg9)
    have HD9 := Lib.hid (HD8.out.old hg9 hB3)
    have HDP9 := Lib.hid (HDP.out.grow (hg9.hid _))
    have HBN9 := Lib.hid (HBN8.out.more hg9 hB3 hb3)
    have HPT9 := Lib.hid (HPT8.out.more hg9 hB3 hb3)
    have HE9 := Lib.hid hb3
    have hbB2 := HPT8.out.hid.bd B2 (by simp)
    have hbB := HBN8.out.hid.bd B HBN8.out.hid.hH
    have hB3B : B3 ≠ B := by omega
    have hB32 : B3 ≠ B2 := by omega
    have hwB3 : w.heap.size ≤ B3 := Nat.le_trans HG8.out.sz hB3
    have hB34 : 4 < B3 := by omega
    have HN0 := Lib.hid (OkB.new H0.out)
    clear hg9 hb3 hbB2 hbB HD8 HDP HBN8 HPT8 c0 c1 c2
    go_wp2_with fail
    go_loopw [15] (fun s15 wr => ∃ k : Nat, k ≤ 0 ∧ s15 = .int .i64 k ∧ Chg B3 w9 wr ∧ BnAt (fun k => k == B3) B3 wr (dosB (newB p) (S.orders.take k))) (fun s15 _ => 0 - (intOf s15).toNat)
    case atStart => exact ⟨0, Nat.zero_le _, rfl, chg_refl B3 w9, HE9.out⟩
    case round =>
    obtain ⟨k, hk, rfl, hc, hbn⟩ := hrel
    have HC := Lib.hid hc
    have HBE := Lib.hid hbn
    have HGW := Lib.hid (chg_grow HG9.out hc hwB3)
    clear hc hbn
    by_cases hlt : k < 0
    · exfalso; omega
    obtain rfl : 0 = k := by omega
    have hltz : ¬ (((0 : Nat) : Int) < ((0 : Nat) : Int)) := by omega
    obtain ⟨w11, hw11⟩ : ∃ z : World, z = wr := ⟨_, rfl⟩
    rw [← hw11] at HC HBE HGW ⊢
    have HBN11 := Lib.hid (HBN9.out.other HC.out hB3B (by simp [hidN]))
    have HPT11 := Lib.hid (HPT9.out.other HC.out hB32 (by simp [hidN]))
    have HDP11 := Lib.hid (texts_keep HDP9.out (HD9.out.grow HC.out).unhide)
    clear hw11 hlt hk HD9 HDP9 HBN9 HPT9 HC
    go_wp2_with fail
    refine sameBench_any _ _ B2 B3 (dosB (newB p) (S.orders.take 0)) _ (HG.out.grow HGW.out) HPT11.out HBE.out HOM.out _ ?_
    intro w12 hg12
    have HG12 := Lib.hid (HGW.out.trans hg12)
    have HBN12 := Lib.hid (HBN11.out.grow hg12)
    have HPT12 := Lib.hid (HPT11.out.grow hg12)
    have HDP12 := Lib.hid (HDP11.out.grow (hg12.hid _))
    clear hg12 HBN11 HPT11 HDP11 HGW HBE
    go_wp2_with fail
    go_loopw [16] (fun s16 wr => ∃ k : Nat, 0 ≤ k ∧ k ≤ S.orders.length ∧ s16 = .int .i64 k ∧ Chg B2 w12 wr ∧ BnAt (hidN (fun k => k == B2) B3) B2 wr (dosB (newB p) (S.orders.take k))) (fun s16 _ => S.orders.length - (intOf s16).toNat)
    case atStart => exact ⟨0, Nat.le_refl _, hml, rfl, chg_refl B2 w12, HPT12.out⟩
    case round =>
    obtain ⟨k, hkm, hk, rfl, hc, hbn⟩ := hrel
    have HC := Lib.hid hc
    have HBE := Lib.hid hbn
    have HGW := Lib.hid (chg_grow HG12.out hc hwB2)
    clear hc hbn
    by_cases hlt : k < S.orders.length
    · exfalso; omega
    obtain rfl : k = S.orders.length := by omega
    have hltz : ¬ (S.orders.length : Int) < (S.orders.length : Int) := by omega
    have HBN14 := Lib.hid (HBN12.out.other HC.out hB2B (by simp [hidN]))
    have hbe := HBE.out
    rw [List.take_length, HREP.out.1] at hbe
    have HPB := Lib.hid hbe
    clear hbe HBE
    go_wp2_with fail
    refine sameBench_any _ _ B2 B S _ (HG.out.grow HGW.out) HPB.out HBN14.out HOK.out _ ?_
    intro w15 hg15
    have HF := Lib.hid (HR.out w15 (HGW.out.trans hg15))
    clear hg15
    go_wp2_with fail
    exact HF.out
end Go.Proofs.YtgjppekjkofdiaaGreatDoor
