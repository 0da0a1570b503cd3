/-













-/
import Derived.Test.YtgjppekjkofdiaaGreatDoorK34
import Derived.Test.YtgjppekjkofdiaaGreatDoorK40
import Derived.Test.YtgjppekjkofdiaaGreatDoorK42
import Derived.Test.YtgjppekjkofdiaaGreatDoorK23
import Derived.Test.YtgjppekjkofdiaaGreatDoorK44
import Derived.RegionTactic
import Derived.Deep.RegionHeld3
import Derived.Test.YtgjppekjkofdiaaGreatDoorK41
import Derived.Test.YtgjppekjkofdiaaGreatDoorK01
import Derived.Test.YtgjppekjkofdiaaGreatDoorK20
import Derived.Test.YtgjppekjkofdiaaGreatDoorK21
import Derived.BigQuiet
import Derived.Test.YtgjppekjkofdiaaGreatDoorK26
import Derived.Test.YtgjppekjkofdiaaGreatDoorK45
namespace Go.Proofs.YtgjppekjkofdiaaGreatDoor
open Go.RowKit

theorem OkB.tsz {s : Bn} (ok : OkB s) : ∀ t ∈ s.orders, t.size ≤ 1000000 := fun t ht => by
  have h1 := (Bk.okT_iff.1 (List.all_eq_true.1 ok.okL t ht)).2.1
  have h2 : (dl t).length = t.size := (tx_len t).symm
  omega
theorem st_field (x0 x1 x2 x3 x4 x5 x6 : Value) (W : World) :
    (Instr.field 91 (.agg #[x0, x1, x2, x3, x4, x5, x6]) 3).run Tryz.prog W = .ok x3 W ∧ (Instr.field 91 (.agg #[x0, x1, x2, x3, x4, x5, x6]) 6).run Tryz.prog W = .ok x6 W ∧ (Instr.field 91 (.agg #[x0, x1, x2, x3, x4, x5, x6]) 2).run Tryz.prog W = .ok x2 W :=
  ⟨by kernel_rfl, by kernel_rfl, by kernel_rfl⟩
theorem st_out (V : V5) (s : Bn) : stCells V s = #[.slice V.pa s.progs.length V.pc, .slice V.ha s.hist.length V.hc, .slice V.ta s.tests.length V.tc, .slice V.la s.lk.length V.lc, .int .i64 s.fixes, .int .i64 s.checks, .slice V.oa s.orders.length V.oc] := rfl

set_option maxRecDepth 100000 in
set_option maxHeartbeats 4000000 in
theorem Locked_any (H : Nat → Bool) (B : Nat) (s : Bn) (w : World) (h : BnAt H B w s) (ok : OkB s) (R : Ending → World → Prop)
    (hR : ∀ w' v base, Grow w w' → w.heap.size ≤ base → w'.ownsRow base 3 1 v s.lk.length (s.lk.flatMap encI) → R (.returned v) w') :
    Calls Tryz.prog 40 #[.pointer (some ⟨B, 0, none⟩)] w R := by
  have HR := Lib.hid hR
  have HH := Lib.hid h
  have HLL := Lib.hid ok.lk8
  clear hR h ok
  go_enter Tryz.func40, Tryz.ntmps40
  go_wp2_with fail
  refine look_any H B s _ HH.out _ ?_
  intro w1 V hg1 hs1
  have HLK := Lib.hid hs1.unhide.lk
  have HG1 := Lib.hid hg1
  rw [st_out V s]
  have hfd := fun x0 x1 x2 x3 x4 x5 x6 W => (st_field x0 x1 x2 x3 x4 x5 x6 W).1
  clear hs1 hg1
  go_wp2_with fail
  refine clI_any s.lk _ _ HLK.out (by have := HLL.out; omega) _ ?_
  intro w2 v2 hg2 hv2
  have HF := Lib.hid (HR.out w2 v2 _ (HG1.out.trans hg2) HG1.out.sz hv2)
  clear hg2 hv2
  go_wp2_with fail
  exact HF.out

set_option maxRecDepth 100000 in
set_option maxHeartbeats 4000000 in
theorem Failing9_any (H : Nat → Bool) (B : Nat) (s : Bn) (w : World) (h : BnAt H B w s) (ok : OkB s) (R : Ending → World → Prop)
    (hR : ∀ w' v base, Grow w w' → w.heap.size ≤ base → OwnI base w' v (failB s.prog s.tests) → R (.returned v) w') :
    Calls Tryz.prog 22 #[.pointer (some ⟨B, 0, none⟩)] w R := by
  have HR := Lib.hid hR
  have HH := Lib.hid h
  have HPN := Lib.hid ok.pne
  clear hR h ok
  go_enter Tryz.func22, Tryz.ntmps22
  go_wp2_with fail
  refine look_any H B s _ HH.out _ ?_
  intro w1 V hg1 hs1
  have HS1 := Lib.hid hs1
  have HG1 := Lib.hid hg1
  clear hs1 hg1
  rw [st_out V s]
  go_upto_region 2 with fail
  obtain ⟨w2, hw2⟩ : ∃ z : World, z = w1.alloc (.cells (stCells V s) 91) := ⟨_, rfl⟩
  change Code.wp _ _ _ _ (w1.alloc (.cells (stCells V s) 91))
  have hg2 : Grow w1 w2 := by rw [hw2]; exact (Grow.refl w1).alloc _
  have hb2 : w2.heap[w1.heap.size]? = some (.cells (stCells V s) 91 (0, 0)) := by rw [hw2]; exact heap_alloc_new _ _
  rw [← hw2]
  obtain ⟨x, hx⟩ : ∃ z, w1.heap.size = z := ⟨_, rfl⟩
  rw [hx] at hb2 ⊢
  have HB2 := Lib.hid hb2
  have HG2 := Lib.hid (HG1.out.trans hg2)
  have HS2 := Lib.hid (HS1.out.grow (hg2.hid H))
  clear hw2 hg2 hb2 hx
  go_wp2_with fail
  refine wp_region_held_drew (S := fun X => Grow w2 X) (by kernel_rfl) ((Grow.refl w2).drew) (fun hH => ?_)
  refine wpAnyH_take (i := 0) (v := .agg #[.slice V.pa s.progs.length V.pc, .slice V.ha s.hist.length V.hc, .slice V.ta s.tests.length V.tc, .slice V.la s.lk.length V.lc, .int .i64 s.fixes, .int .i64 s.checks, .slice V.oa s.orders.length V.oc]) rfl (by kernel_rfl) (by kernel_rfl) (by kernel_rfl) (fun _ _ _ h => h) (Or.inl ⟨by rfl, ?_⟩) hH ?_
  · intro w9 hw9
    obtain ⟨c0, c1, c2, c3, c4, c5, c6⟩ := st_cells (Grow.blk hw9 HB2.out)
    go_simp
  try simp only [List.getElem_toArray, List.getElem_cons_zero, Act.put, List.setIfInBounds_toArray, List.set_cons_zero, List.set_cons_succ]
  refine wpAnyH_take (i := 1) (v := .agg #[.slice V.pa s.progs.length V.pc, .slice V.ha s.hist.length V.hc, .slice V.ta s.tests.length V.tc, .slice V.la s.lk.length V.lc, .int .i64 s.fixes, .int .i64 s.checks, .slice V.oa s.orders.length V.oc]) rfl (by kernel_rfl) (by kernel_rfl) (by kernel_rfl) (fun _ _ _ h => h) (Or.inl ⟨by rfl, ?_⟩) hH ?_
  · intro w9 hw9
    obtain ⟨c0, c1, c2, c3, c4, c5, c6⟩ := st_cells (Grow.blk hw9 HB2.out)
    go_simp
  try simp only [List.getElem_toArray, List.getElem_cons_succ, List.getElem_cons_zero, Act.put, List.setIfInBounds_toArray, List.set_cons_zero, List.set_cons_succ]
  refine wpAnyH_ready (rs := [2]) (by kernel_rfl) (by simp) ?_
  refine AllReadyH.cons rfl (fun K hK => ?_) AllReadyH.nil
  go_simp
  refine program_any H V s _ (HS2.out.grow (hH.hid H)) HPN.out _ ?_
  intro w3 pv hg3 hpv
  have HPV := Lib.hid hpv.unhide
  go_wp2_with fail
  refine hK.out _ _ (hH.trans hg3) (fun hH2 => ?_)
  clear hK K hH
  have hH := hH2
  clear hH2
  try simp only [List.getElem_toArray, List.getElem_cons_succ, List.getElem_cons_zero, Act.put, List.setIfInBounds_toArray, List.set_cons_zero, List.set_cons_succ]
  clear hg3 hpv
  refine wpAnyH_ready (rs := [3]) (by kernel_rfl) (by simp) ?_
  refine AllReadyH.cons rfl (fun K hK => ?_) AllReadyH.nil
  go_simp
  refine bfailing_any H s.prog pv V s _ HPV.out (HS2.out.grow (hH.hid H)) _ ?_
  intro w4 x4 hg4 hx4
  have HX4 := Lib.hid (hx4.mono hH.sz)
  go_wp2_with fail
  refine hK.out _ _ (hH.trans hg4) (fun hH2 => ?_)
  clear hK K hH
  have hH := hH2
  clear hH2
  try simp only [List.getElem_toArray, List.getElem_cons_succ, List.getElem_cons_zero, Act.put, List.setIfInBounds_toArray, List.set_cons_zero, List.set_cons_succ]
  clear hg4 hx4
  refine wpAnyH_take (i := 4) (v := x4) rfl (by kernel_rfl) (by kernel_rfl) (by kernel_rfl) (fun _ _ _ h => h) (Or.inl ⟨by rfl, ?_⟩) hH ?_
  · intro w9 hw9
    go_simp
  try simp only [List.getElem_toArray, List.getElem_cons_succ, List.getElem_cons_zero, Act.put, List.setIfInBounds_toArray, List.set_cons_zero, List.set_cons_succ]
  refine wpAnyH_done (by kernel_rfl) ?_ _
  have HF := Lib.hid (HR.out _ x4 _ (HG2.out.trans hH) HG2.out.sz HX4.out)
  clear hH
  go_wp2_with fail
  exact HF.out

set_option maxRecDepth 100000 in
set_option maxHeartbeats 4000000 in
theorem Counts_any (H : Nat → Bool) (B : Nat) (s : Bn) (w : World) (h : BnAt H B w s) (R : Ending → World → Prop)
    (hR : ∀ w', Grow w w' → R (.returned (.tuple #[.int .i64 s.fixes, .int .i64 s.checks])) w') :
    Calls Tryz.prog 19 #[.pointer (some ⟨B, 0, none⟩)] w R := by
  have HR := Lib.hid hR
  have HH := Lib.hid h
  clear hR h
  go_enter Tryz.func19, Tryz.ntmps19
  go_wp2_with fail
  refine look_any H B s _ HH.out _ ?_
  intro w1 V hg1 hs1
  have HG1 := Lib.hid hg1
  clear hs1 hg1
  rw [st_out V s]
  go_upto_region 2 with fail
  obtain ⟨w2, hw2⟩ : ∃ z : World, z = w1.alloc (.cells (stCells V s) 91) := ⟨_, rfl⟩
  change Code.wp _ _ _ _ (w1.alloc (.cells (stCells V s) 91))
  have hg2 : Grow w1 w2 := by rw [hw2]; exact (Grow.refl w1).alloc _
  have hb2 : w2.heap[w1.heap.size]? = some (.cells (stCells V s) 91 (0, 0)) := by rw [hw2]; exact heap_alloc_new _ _
  rw [← hw2]
  obtain ⟨x, hx⟩ : ∃ z, w1.heap.size = z := ⟨_, rfl⟩
  rw [hx] at hb2 ⊢
  have HG2 := Lib.hid (HG1.out.trans hg2)
  obtain ⟨c0, c1, c2, c3, c4, c5, c6⟩ := st_cells hb2
  have HF := Lib.hid (fun W (g : Grow w2 W) => HR.out W (HG2.out.trans g))
  clear hw2 hg2 hb2 hx
  go_wp2_with (go_quiet (fail))
  exact HF.out _ ((Grow.refl _).drewN _)

set_option maxRecDepth 100000 in
set_option maxHeartbeats 4000000 in
theorem Book_any (H : Nat → Bool) (B : Nat) (s : Bn) (w : World) (hg : Glob w) (h : BnAt H B w s) (ok : OkB s) (R : Ending → World → Prop)
    (hR : ∀ w', Grow w w' → R (.returned (.string (tb (bkS s.orders)))) w') :
    Calls Tryz.prog 26 #[.pointer (some ⟨B, 0, none⟩)] w R := by
  have HR := Lib.hid hR
  have HG := Lib.hid hg
  have HH := Lib.hid h
  have HSZ := Lib.hid ok.tsz
  have HOL := Lib.hid ok.ord
  clear hR hg h ok
  go_enter Tryz.func26, Tryz.ntmps26
  go_wp2_with fail
  refine look_any H B s _ HH.out _ ?_
  intro w1 V hg1 hs1
  have HOD := Lib.hid hs1.unhide.od
  have HG1 := Lib.hid hg1
  rw [st_out V s]
  have hfd := fun x0 x1 x2 x3 x4 x5 x6 W => (st_field x0 x1 x2 x3 x4 x5 x6 W).2.1
  clear hs1 hg1
  go_wp2_with fail
  refine write_any s.orders _ _ (HG.out.grow HG1.out) HOD.out HSZ.out (by have := HOL.out; omega) _ ?_
  intro w2 hg2
  have HF := Lib.hid (HR.out w2 (HG1.out.trans hg2))
  clear hg2
  go_wp2_with fail
  exact HF.out
end Go.Proofs.YtgjppekjkofdiaaGreatDoor

namespace Go.Proofs.YtgjppekjkofdiaaGreatDoor
open Go.RowKit

theorem Chg.slc {α : Type} {k : Nat} {enc : α → List Value} {w w' : World} {v : Value} {xs : List α} {B : Nat} (c : Chg B w w') (h : SlcAt k enc w v xs) (hB : ∀ a n m, v = .slice (some a) n m → a.block ≠ B) : SlcAt k enc w' v xs :=
  ((SlcAt.hide h (H := fun k => k == B) fun _ _ n m e => .inl (beq_eq_false_iff_ne.2 (hB _ n m e))).grow c).unhide
theorem BnAt.more {H : Nat → Bool} {B N : Nat} {w w' : World} {s s2 : Bn} (h : BnAt H B w s) (g : Grow w w') (hN : w.heap.size ≤ N) (h2 : BnAt (fun k => k == N) N w' s2) : BnAt (hidN H N) B w' s := by
  obtain ⟨V, hb, hs⟩ := h.blk
  have hNl := h2.hid.bd N (by simp)
  refine ⟨⟨by unfold hidN; rw [h.hid.hH]; rfl, fun k hk => ?_⟩, V, g.blk hb, hs.grow (g.hidN hN)⟩
  unfold hidN at hk
  rw [Bool.or_eq_true] at hk
  rcases hk with hk | hk
  · exact Nat.lt_of_lt_of_le (h.hid.bd k hk) g.sz
  · have := beq_iff_eq.1 hk; omega
theorem BnAt.other {H : Nat → Bool} {B N : Nat} {w w' : World} {s : Bn} (h : BnAt H B w s) (c : Chg N w w') (hN : N ≠ B) (hH : H N = true) : BnAt H B w' s := h.chg c hN hH
theorem BnAt.only {H : Nat → Bool} {B : Nat} {w : World} {s : Bn} (h : BnAt H B w s) : BnAt (fun k => k == B) B w s := by
  obtain ⟨V, hb, hs⟩ := h.blk
  refine ⟨⟨by simp, fun k hk => by obtain rfl := beq_iff_eq.1 hk; exact h.hid.bd _ h.hid.hH⟩, V, hb, ?_⟩
  have e : hideW H w = hideW H (hideW (fun k => k == B) w) := by
    rw [hide_hide]
    congr 1
    funext k
    by_cases hk : k = B
    · subst hk; rw [h.hid.hH]; simp
    · rw [show (k == B) = false by simpa using hk, Bool.false_or]
  rw [e] at hs
  exact hs.unhide
theorem BnAt.row {H : Nat → Bool} {B : Nat} {w w' : World} {s : Bn} {v v' : Value} (h : BnAt H B w s) (hv : ∀ b, v.ownBlock = some b → H b = true ∧ b ≠ B) (hgr : w.grownBy w' v.ownBlock) (hlt : ∀ b, v'.ownBlock = some b → b < w'.heap.size) (hat : v'.ownBlock = v.ownBlock ∨ v'.ownBlock = some w.heap.size) :
    ∃ H', BnAt H' B w' s ∧ ∀ b, v'.ownBlock = some b → H' b = true ∧ b ≠ B := by
  obtain ⟨V, hb, hs⟩ := h.blk
  have hBl := h.hid.bd B h.hid.hH
  have hb' : w'.heap[B]? = some (.cells (bnCells V s) 93 (0, 0)) := by
    rw [hgr.block B hBl (fun e => (hv B e.symm).2 rfl)]; exact hb
  have hsz := hgr.size
  have g : ∀ H' : Nat → Bool, (∀ k, k < w.heap.size → H' k = H k) → Grow (hideW H w) (hideW H' w') := fun H' hH' => by
    refine ⟨hgr.os, hgr.tape, hgr.output, by rw [hide_size, hide_size]; exact hsz, fun k hk => ?_⟩
    rw [hide_size] at hk
    rw [hide_heap, hide_heap, hH' k hk]
    by_cases hne : some k ≠ v.ownBlock
    · rw [hgr.block k hk hne]
    · have hk2 : H k = true := (hv k (Classical.not_not.1 hne).symm).1
      rw [hk2, Array.getElem?_eq_getElem hk, Array.getElem?_eq_getElem (Nat.lt_of_lt_of_le hk hsz)]; rfl
  refine ⟨fun k => H k || (v'.ownBlock == some k), ⟨⟨by rw [h.hid.hH]; rfl, fun k hk => ?_⟩, V, hb', hs.grow (g _ fun k hk => ?_)⟩, fun b hb2 => ⟨by rw [hb2]; simp, ?_⟩⟩
  · rw [Bool.or_eq_true] at hk
    rcases hk with hk | hk
    · exact Nat.lt_of_lt_of_le (h.hid.bd k hk) hsz
    · exact hlt k (beq_iff_eq.1 hk)
  · cases hh : H k with
    | true => rfl
    | false =>
      show (false || (v'.ownBlock == some k)) = false
      rw [Bool.false_or, beq_eq_false_iff_ne]
      intro e
      rcases hat with h1 | h1
      · rw [h1] at e; rw [(hv k e).1] at hh; cases hh
      · rw [h1] at e; have := Option.some.inj e; omega
  · rcases hat with h1 | h1
    · rw [h1] at hb2; exact (hv b hb2).2
    · rw [h1] at hb2; have := Option.some.inj hb2; omega
end Go.Proofs.YtgjppekjkofdiaaGreatDoor

namespace Go.Proofs.YtgjppekjkofdiaaGreatDoor
open Go.RowKit

theorem SlcAt.take3 {α : Type} {k : Nat} {enc : α → List Value} {w : World} {a : Option Addr} {n c : Nat} {xs : List α} (h : SlcAt k enc w (.slice a n c) xs) {m : Nat} (hm : m ≤ xs.length) : SlcAt k enc w (.slice a m m) (xs.take m) := by
  obtain ⟨a', c', e, h2, h3, h4⟩ := h
  cases e
  have hl : (xs.take m).length = m := by rw [List.length_take]; omega
  refine ⟨a, m, by rw [hl], by rw [hl]; exact Nat.le_refl _, by omega, ?_⟩
  rcases h4 with ⟨h4, h5⟩ | ⟨b, o, e, hb, hc⟩
  · refine .inl ⟨by rw [h4]; simp, fun e => ?_⟩
    have := h5 e
    have h6 : xs.length = 0 := by rw [h4]; rfl
    omega
  · refine .inr ⟨b, o, e, hb, fun j x hx i u hu => ?_⟩
    rw [List.getElem?_take] at hx
    split at hx
    · exact hc j x hx i u hu
    · cases hx
theorem map_tb_dl (l : List ByteArray) : (l.map dl).map tb = l := by
  rw [List.map_map]
  have : (tb ∘ dl) = id := by funext t; exact tb_of t
  rw [this, List.map_id]
theorem book_read {l : List ByteArray} (hok : okL l = true) (hl : l.length ≤ 80) : Bk.readL 80 0 (tb (bkS l)).data.toList = (l.map dl, []) := by
  rw [tb_data]
  refine Bk.readL_book (l.map dl) 80 0 ?_ (by rw [List.length_map]; exact hl)
  intro t ht
  obtain ⟨u, hu, rfl⟩ := List.mem_map.1 ht
  exact List.all_eq_true.1 hok u hu
theorem keep_bd (n : Int) (L : Nat) (hL : L ≤ 1000000000) : ∃ m : Nat, wrap64 ((IntKind.u64.wrap n).tmod ((L : Int) + 1)) = (m : Int) ∧ m ≤ L := by
  have hu : 0 ≤ IntKind.u64.wrap n := by
    unfold IntKind.wrap
    simp [IntKind.signed, IntKind.bits]
    omega
  have h1 := Int.tmod_nonneg ((L : Int) + 1) hu
  have h2 := Int.tmod_lt_of_pos (IntKind.u64.wrap n) (show (0 : Int) < (L : Int) + 1 by omega)
  refine ⟨((IntKind.u64.wrap n).tmod ((L : Int) + 1)).toNat, ?_, by omega⟩
  rw [IntWalk.wrap64_in _ (by omega)]
  omega
end Go.Proofs.YtgjppekjkofdiaaGreatDoor

namespace Go.Proofs.YtgjppekjkofdiaaGreatDoor
open Go.RowKit

noncomputable def stopB (s : Bn) : List ByteArray → Option (Nat × Int)
  | [] => none
  | t :: r => if (doB s t).1 ≠ 0 then some (0, (doB s t).1) else (stopB (doB s t).2 r).map fun q => (q.1 + 1, q.2)
noncomputable def ordB (t : ByteArray) : List ByteArray := (Bk.readL 80 0 t.data.toList).1.map tb
noncomputable def repB (p : List Ln) (t : ByteArray) : Option Bn × Int × Int :=
  if valP p ≠ 0 then (none, 0, valP p)
  else if (Bk.readL 80 0 t.data.toList).2 ≠ [] then (none, 0, 10)
  else match stopB (newB p) (ordB t) with
    | some q => (none, (q.1 : Nat), q.2)
    | none => (some (dosB (newB p) (ordB t)), ((ordB t).length : Nat), 0)
theorem stop_hit : ∀ {l : List ByteArray} {s : Bn} {k : Nat} {t : ByteArray}, stopB s (l.take k) = none → l[k]? = some t → (doB (dosB s (l.take k)) t).1 ≠ 0 → stopB s l = some (k, (doB (dosB s (l.take k)) t).1)
  | [], _, _, _, _, h, _ => by simp at h
  | a :: l, s, 0, t, _, h, hne => by
    simp at h; subst h
    have hne' : (doB s a).1 ≠ 0 := hne
    unfold stopB
    rw [if_pos hne']
    rfl
  | a :: l, s, k + 1, t, h1, h2, h3 => by
    rw [List.take_succ_cons] at h1 h3 ⊢
    unfold stopB at h1 ⊢
    by_cases ha : (doB s a).1 ≠ 0
    · rw [if_pos ha] at h1; cases h1
    · rw [if_neg ha] at h1 ⊢
      have h4 : stopB (doB s a).2 (l.take k) = none := by
        cases h : stopB (doB s a).2 (l.take k) with
        | none => rfl
        | some q => rw [h] at h1; cases h1
      rw [stop_hit h4 (by simpa using h2) h3]
      rfl
theorem stop_on : ∀ {l : List ByteArray} {s : Bn} {k : Nat} {t : ByteArray}, stopB s (l.take k) = none → l[k]? = some t → (doB (dosB s (l.take k)) t).1 = 0 → stopB s (l.take (k + 1)) = none
  | [], _, _, _, _, h, _ => by simp at h
  | a :: l, s, 0, t, _, h, hne => by
    simp at h; subst h
    have hne' : (doB s a).1 = 0 := hne
    rw [List.take_succ_cons, List.take_zero]
    unfold stopB stopB
    rw [if_neg (by rw [hne']; simp)]; rfl
  | a :: l, s, k + 1, t, h1, h2, h3 => by
    rw [List.take_succ_cons] at h1 h3 ⊢
    unfold stopB at h1 ⊢
    by_cases ha : (doB s a).1 ≠ 0
    · rw [if_pos ha] at h1; cases h1
    · rw [if_neg ha] at h1 ⊢
      have h4 : stopB (doB s a).2 (l.take k) = none := by
        cases h : stopB (doB s a).2 (l.take k) with
        | none => rfl
        | some q => rw [h] at h1; cases h1
      rw [stop_on h4 (by simpa using h2) h3]; rfl
theorem dos_snoc {l : List ByteArray} {s : Bn} {k : Nat} {t : ByteArray} (h : l[k]? = some t) : dosB s (l.take (k + 1)) = (doB (dosB s (l.take k)) t).2 := by
  rw [List.take_add_one, h, Option.toList_some, dosB_append]; rfl
theorem read_bd {b : List UInt8} {t : List UInt8} (h : t ∈ (Bk.readL 80 0 b).1) : t.length ≤ 30 := (Bk.okT_iff.1 ((Bk.readL_eq 80 0 b).2.1 t h)).2.1

set_option maxRecDepth 100000 in
set_option maxHeartbeats 8000000 in
theorem Replay_any (p : List Ln) (v : Value) (t : ByteArray) (w : World) (hg : Glob w) (hp : LinesAt w v p) (hn : p.length < 10000000000) (ht : t.size ≤ 1000000000) (R : Ending → World → Prop)
    (hno : ∀ n e, repB p t = (none, n, e) → ∀ w', Grow w w' → R (.returned (.tuple #[.pointer none, .int .i64 n, .int .i64 e])) w')
    (hok : ∀ s n e, repB p t = (some s, n, e) → ∀ w' B, Grow w w' → w.heap.size ≤ B → BnAt (fun k => k == B) B w' s → OkB s → R (.returned (.tuple #[.pointer (some ⟨B, 0, none⟩), .int .i64 n, .int .i64 e])) w') :
    Calls Tryz.prog 31 #[v, .string t] w R := by
  have HNO := Lib.hid hno
  have HOK := Lib.hid hok
  have HP := Lib.hid hp
  have HG := Lib.hid hg
  have hwz := hg.size
  clear hno hok hp hg
  go_enter Tryz.func31, Tryz.ntmps31
  go_wp2_with fail
  refine New_any p v _ HP.out hn _ ?_ ?_
  · intro h0 w1 hg1
    have HF := Lib.hid (HNO.out 0 (valP p) (by unfold repB; rw [if_pos h0]) w1 hg1)
    have hz : (valP p != 0) = true := by simpa using h0
    obtain ⟨e, he⟩ : ∃ e, valP p = e := ⟨_, rfl⟩
    rw [he] at HF hz h0 ⊢
    clear he hg1
    go_wp2_with fail
    first | exact HF.out | exact bodyPost_ret (by simp [results, Tryz.results31, go_sem]) rfl HF.out
  · intro h0 w1 B hg1 hB hb
    have HG1 := Lib.hid hg1
    have HB := Lib.hid hb
    have H0 := Lib.hid h0
    have hBl := hb.hid.bd B (by simp)
    clear hg1 hb h0
    go_wp2_with fail
    refine Read_any t ht _ (HG.out.grow HG1.out) _ ?_
    intro w2 rv hg2 ho2
    obtain ⟨M, hM⟩ : ∃ M, Bk.readL 80 0 t.data.toList = M := ⟨_, rfl⟩
    have hrb : ∀ u ∈ M.1, u.length ≤ 30 := fun u hu => read_bd (by rw [hM]; exact hu)
    have hrl : M.1.length ≤ 80 := by rw [← hM]; exact read_len80 _ _ _
    have hrep : repB p t = (if M.2 ≠ [] then (none, 0, 10) else match stopB (newB p) (M.1.map tb) with
      | some q => (none, (q.1 : Nat), q.2)
      | none => (some (dosB (newB p) (M.1.map tb)), ((M.1.map tb).length : Nat), 0) : Option Bn × Int × Int) := by
      unfold repB ordB; rw [if_neg (by rw [H0.out]; simp), hM]
    rw [hM] at ho2 ⊢
    rw [hrep] at HNO HOK
    clear hM hrep
    obtain ⟨q, r⟩ := M
    dsimp only at ho2 hrb hrl HNO HOK ⊢
    obtain ⟨l, hl⟩ : ∃ l, q.map tb = l := ⟨_, rfl⟩
    have hln : l.length ≤ 80 := by rw [← hl, List.length_map]; exact hrl
    have hlb : ∀ u ∈ l, u.size < 4294967281 := by
      intro u hu
      rw [← hl] at hu
      obtain ⟨z, hz, rfl⟩ := List.mem_map.1 hu
      rw [tb_size]
      have := hrb z hz
      omega
    rw [hl] at ho2 HNO HOK
    have HLB := Lib.hid hlb
    clear hl hrb hrl hlb
    have hhid := (slc_of_owns encTx_len ho2).hide_new (NewS.of_own (show Own 1 encTx _ w2 rv l from ⟨_, ho2⟩)) (H := fun k => k == B) (fun b hb => by rw [beq_eq_false_iff_ne]; omega)
    obtain ⟨ra, rc, rfl, r1, r2, jk⟩ := slc_of_owns encTx_len ho2
    have HT := Lib.hid hhid
    have HG2 := Lib.hid (HG1.out.trans hg2)
    have HB2 := Lib.hid (HB.out.grow hg2)
    have hB4 : 4 < B := by omega
    clear ho2 jk hhid hg2 HB
    by_cases hr : r = []
    rotate_left
    · have HF := Lib.hid (HNO.out 0 10 (by rw [if_pos hr]) w2 HG2.out)
      have hrb := tb_nel hr
      have hrc : ((tb r).toList == []) = false := beq_eq_false_iff_ne.2 hrb
      go_wp2_with fail
      all_goals first | exact HF.out | exact bodyPost_ret (by simp [results, Tryz.results31, go_sem]) rfl HF.out
    subst hr
    rw [if_neg (by simp)] at HNO HOK
    have hrn := tb_nil
    have hnb : OkB (newB p) := OkB.new H0.out
    have HNB := Lib.hid hnb
    clear hnb
    go_wp2_with fail
    go_loopw [31] (fun s31 wr => ∃ k : Nat, k ≤ l.length ∧ s31 = .int .i64 k ∧ Chg B w2 wr ∧ BnAt (fun k => k == B) B wr (dosB (newB p) (l.take k)) ∧ stopB (newB p) (l.take k) = none) (fun s31 _ => l.length - (intOf s31).toNat)
    case atStart => exact ⟨0, Nat.zero_le _, rfl, chg_refl B w2, HB2.out, rfl⟩
    case round =>
      obtain ⟨k, hk, rfl, hc, hbn, hst⟩ := hrel
      have HC := Lib.hid hc
      have HBN := Lib.hid hbn
      have HST := Lib.hid hst
      have hgw : Grow w wr := chg_grow HG2.out hc (by omega)
      have HGW := Lib.hid hgw
      clear hc hbn hst hgw
      by_cases hlt : k < l.length
      · have hltz : (k : Int) < (l.length : Int) := by omega
        obtain ⟨u, hu⟩ : ∃ u, l[k]? = some u := ⟨_, List.getElem?_eq_getElem hlt⟩
        obtain ⟨b, o, rfl, hbl, y0⟩ := texts_at (show TextsAt wr _ l from (HT.out.grow HC.out).unhide) hu
        have hus := HLB.out u (List.mem_of_getElem? hu)
        have HU := Lib.hid hu
        clear hu
        go_wp2_with fail
        refine bDo_any (fun k => k == B) B u hus (dosB (newB p) (l.take k)) _ (HG.out.grow HGW.out) HBN.out (HNB.out.dos _) hB4 _ ?_
        intro w5 hc5 hb5
        obtain ⟨e, he⟩ : ∃ e, (doB (dosB (newB p) (l.take k)) u).1 = e := ⟨_, rfl⟩
        have HE := Lib.hid he
        have HC5 := Lib.hid (HC.out.trans hc5)
        have HB5 := Lib.hid hb5
        have hgw5 : Grow w w5 := chg_grow HG2.out HC5.out (by omega)
        rw [he]
        by_cases h0 : e = 0
        · subst h0
          have hs2 := stop_on HST.out HU.out HE.out
          have HS2 := Lib.hid hs2
          clear he hc5 hb5 hs2 hgw5
          go_wp2_with fail
          go_roundw
          case rel => exact ⟨k + 1, by omega, by go_num, HC5.out, by rw [dos_snoc HU.out]; exact HB5.out, HS2.out⟩
          case measure => simp [intOf]; omega
        · have hz : (e != 0) = true := by simpa using h0
          have hs2 := stop_hit HST.out HU.out (by rw [HE.out]; exact h0)
          rw [HE.out] at hs2
          have HF := Lib.hid (HNO.out k e (by rw [hs2]) w5 hgw5)
          clear he hc5 hb5 hs2 hgw5
          go_wp2_with fail
          first | exact HF.out | exact bodyPost_ret (by simp [results, Tryz.results31, go_sem]) rfl HF.out
      · obtain rfl : k = l.length := by omega
        have hltz : ¬ (l.length : Int) < (l.length : Int) := by omega
        have hst := HST.out
        have hbn := HBN.out
        rw [List.take_length] at hst hbn
        have HF := Lib.hid (HOK.out (dosB (newB p) l) l.length 0 (by rw [hst]) wr B HGW.out (by omega) hbn (HNB.out.dos _))
        clear hst hbn
        go_wp2_with fail
        first | exact HF.out | exact bodyPost_ret (by simp [results, Tryz.results31, go_sem]) rfl HF.out
end Go.Proofs.YtgjppekjkofdiaaGreatDoor

namespace Go.Proofs.YtgjppekjkofdiaaGreatDoor
open Go.RowKit

theorem long49_any (p : List Ln) (v : Value) (w : World) (hp : LinesAt w v p) (R : Ending → World → Prop) (hR : R (.returned (.bool (decide (100 < p.length)))) w) :
    Calls Tryz.prog 9 #[v, .slice none 0 0] w R := by
  obtain ⟨a, c, rfl, h1, h2, _⟩ := hp
  by_cases h : 100 < p.length
  · rw [decide_eq_true h] at hR
    have t1 : (p.length : Int) > 100 := by omega
    go_enter Tryz.func9, Tryz.ntmps9
    go_wp2
    simpa using hR
  · rw [decide_eq_false h] at hR
    have t1 : ¬ (p.length : Int) > 100 := by omega
    go_enter Tryz.func9, Tryz.ntmps9
    go_wp2
    simpa using hR
end Go.Proofs.YtgjppekjkofdiaaGreatDoor

namespace Go.Proofs.YtgjppekjkofdiaaGreatDoor
open Go.RowKit

theorem head_repair (s : Bn) (x : List Ed) (h : 0 < s.progs.length) : (repairB s x).2.progs[0]? = s.progs[0]? := by
  unfold repairB
  repeat' split
  all_goals first | rfl | exact List.getElem?_append_left h
theorem head_exec {s : Bn} (ok : OkB s) (k : Nat) (l : List Int) : (execB s k l).2.progs[0]? = s.progs[0]? := by
  have h : 0 < s.progs.length := by rw [ok.len]; omega
  have hr := fun x => head_repair s x h
  unfold execB putB undoB testB forgetB lockB fixBn verifyB
  repeat' split
  all_goals first
    | rfl
    | exact hr _
    | (show (s.progs.take s.hist.length)[0]? = _
       rw [List.getElem?_take, if_pos (by omega)])
theorem head_do {s : Bn} (ok : OkB s) (t : ByteArray) : (doB s t).2.progs[0]? = s.progs[0]? := by
  unfold doB
  repeat' split
  all_goals first | rfl | exact head_exec ok _ _
theorem head_dos {s : Bn} (ok : OkB s) : ∀ l, (dosB s l).progs[0]? = s.progs[0]?
  | [] => rfl
  | t :: r => (head_dos (ok.do t) r).trans (head_do ok t)
theorem RepB.head {p : List Ln} {s : Bn} (h : RepB p s) (hp : valP p = 0) : s.progs[0]? = some p := by
  rw [← h.1, head_dos (OkB.new hp)]; rfl
theorem RepB.val {p : List Ln} {s : Bn} (ok : OkB s) (h : s.progs[0]? = some p) : valP p = 0 := ok.val p (List.mem_of_getElem? h)
theorem RepB.stop {p : List Ln} {s : Bn} (h : RepB p s) : ∀ k, k ≤ s.orders.length → stopB (newB p) (s.orders.take k) = none
  | 0, _ => rfl
  | k + 1, hk => by
    obtain ⟨t, ht⟩ : ∃ t, s.orders[k]? = some t := ⟨_, List.getElem?_eq_getElem (by omega)⟩
    exact stop_on (h.stop k (by omega)) ht (h.2 k t ht)
theorem RepB.book {p : List Ln} {s : Bn} (ok : OkB s) (h : RepB p s) (hp : valP p = 0) : repB p (tb (bkS s.orders)) = (some s, ((s.orders.length : Nat) : Int), (0 : Int)) := by
  unfold repB ordB
  rw [if_neg (by rw [hp]; simp), book_read ok.okL ok.ord]
  dsimp only
  rw [if_neg (by simp), map_tb_dl]
  have := h.stop s.orders.length (Nat.le_refl _)
  rw [List.take_length] at this
  rw [this, h.1]
set_option maxRecDepth 100000 in
set_option maxHeartbeats 16000000 in
theorem Audit_any (H : Nat → Bool) (B : Nat) (s : Bn) (p : List Ln) (w : World) (hg : Glob w) (h : BnAt H B w s) (ok : OkB s) (rep : RepB p s) (hp : valP p = 0) (R : Ending → World → Prop) (hR : ∀ w', Grow w w' → R (.returned (.bool true)) w') :
    Calls Tryz.prog 34 #[.pointer (some ⟨B, 0, none⟩)] w R := by
  have HR := Lib.hid hR
  have HG := Lib.hid hg
  have HH := Lib.hid h
  have HOK := Lib.hid ok
  have HBK := Lib.hid (rep.book ok hp)
  have HHD := Lib.hid (rep.head hp)
  have HPV := Lib.hid hp
  clear hR hg h ok rep hp
  go_enter Tryz.func34, Tryz.ntmps34
  go_wp2_with fail
  refine look_any H B s _ HH.out _ ?_
  intro w1 V hg1 hs1
  have HG1 := Lib.hid hg1
  have HS1 := Lib.hid hs1
  clear hg1 hs1
  have hc : stCells V s = #[.slice V.pa s.progs.length V.pc, .slice V.ha s.hist.length V.hc, .slice V.ta s.tests.length V.tc, .slice V.la s.lk.length V.lc, .int .i64 s.fixes, .int .i64 s.checks, .slice V.oa s.orders.length V.oc] := rfl
  rw [hc]
  go_upto_region 4 with fail
  obtain ⟨w2, hw2⟩ : ∃ z : World, z = w1.alloc (.cells (stCells V s) 91) := ⟨_, rfl⟩
  change Code.wp _ _ _ _ (w1.alloc (.cells (stCells V s) 91))
  have hg2 : Grow w1 w2 := by rw [hw2]; exact (Grow.refl w1).alloc _
  have hb2 : w2.heap[w1.heap.size]? = some (.cells (stCells V s) 91 (0, 0)) := by rw [hw2]; exact heap_alloc_new _ _
  rw [← hw2]
  obtain ⟨x, hx⟩ : ∃ z, w1.heap.size = z := ⟨_, rfl⟩
  rw [hx] at hb2 ⊢
  have hs2 := HS1.out.grow (hg2.hid H)
  obtain ⟨L, hL, hLx⟩ := hs2.unhide.pr
  obtain ⟨M, hM, hMx⟩ := hs2.unhide.hi
  have hlp : 0 < s.progs.length := by rw [HOK.out.len]; omega
  obtain ⟨t0, ht0, ht0x⟩ : ∃ t, L[0]? = some t ∧ t.x = p := by
    have h1 : L[0]?.map Lo.x = some p := by rw [← List.getElem?_map, hLx]; exact HHD.out
    cases h2 : L[0]? with
    | none => rw [h2] at h1; cases h1
    | some t => rw [h2] at h1; exact ⟨t, rfl, Option.some.inj h1⟩
  obtain ⟨pb, po, hpa, hpl, y0⟩ := lo_at hL.at_ ht0
  rw [Nat.add_zero] at y0
  have HP0 := Lib.hid (show LinesAt w2 t0.v p by rw [← ht0x]; exact hL.ins t0 (List.mem_of_getElem? ht0))
  have hLl : L.length = s.progs.length := by rw [← hLx]; simp
  have hMl : M.length = s.hist.length := by rw [← hMx]; simp
  obtain ⟨d0, d1, d2, d3, d4, d5, d6⟩ := st_cells hb2
  rw [hpa] at d0
  have HB2 := Lib.hid hb2
  have HS2 := Lib.hid hs2
  have HM := Lib.hid hM
  have HMX := Lib.hid hMx
  have HG2 := Lib.hid (HG1.out.trans hg2)
  have HPA := Lib.hid hpa
  have HY0 := Lib.hid y0
  have hplz : (0 : Int) < (s.progs.length : Int) := by omega
  clear hw2 hg2 hb2 hs2 hL hLx hM hMx ht0 hx HS1 HG1 hpa
  go_wp2_with fail
  go_loopw [4, 23] (fun s4 s23 wr => ∃ (k : Nat) (pk : List Ln), k ≤ s.hist.length ∧ s23 = .int .i64 k ∧ s.progs[k]? = some pk ∧ LinesAt wr s4 pk ∧ Grow w2 wr) (fun _ s23 _ => s.hist.length - (intOf s23).toNat)
  case atStart => exact ⟨0, p, Nat.zero_le _, rfl, HHD.out, HP0.out, Grow.refl w2⟩
  case round =>
    obtain ⟨k, pk, hk, rfl, hpk, hlpk, hg⟩ := hrel
    have HGR := Lib.hid hg
    have HLP := Lib.hid hlpk
    have HPK := Lib.hid hpk
    clear hg hlpk hpk d0 d1 d2 d3 d4 d5 d6 y0
    by_cases hlt : k < s.hist.length
    · have hltz : (k : Int) < (s.hist.length : Int) := by omega
      obtain ⟨tm, htm⟩ : ∃ t, M[k]? = some t := ⟨_, List.getElem?_eq_getElem (by omega)⟩
      obtain ⟨mb, mo, hha, hmb, m0⟩ := lo_at (HM.out.grow HGR.out).at_ htm
      have hxk : s.hist[k]? = some tm.x := by rw [← HMX.out, List.getElem?_map, htm]; rfl
      obtain ⟨q, hq⟩ : ∃ q, s.progs[k + 1]? = some q := ⟨_, List.getElem?_eq_getElem (by rw [HOK.out.len]; omega)⟩
      obtain ⟨hch, hqe⟩ := HOK.out.step k pk tm.x q HPK.out hxk hq
      have hk8 : k < 8 := by have := HOK.out.h8; omega
      have HMI := Lib.hid ((HM.out.grow HGR.out).ins tm (List.mem_of_getElem? htm))
      have HQ := Lib.hid hq
      have HCH := Lib.hid hch
      have HQE := Lib.hid hqe
      rw [hha]
      clear hq hch hqe hxk htm hha
      go_wp2_with fail
      refine Do_any pk tm.x _ _ _ HLP.out HMI.out _ ?_
      intro w5 v5 hg5 _ hl5
      rw [HCH.out] at hl5 ⊢
      rw [if_pos rfl, ← HQE.out] at hl5
      have HL5 := Lib.hid hl5
      have HG5 := Lib.hid (HGR.out.trans hg5)
      clear hl5 hg5
      go_wp2_with fail
      go_roundw
      case rel => exact ⟨k + 1, q, by omega, by go_num, HQ.out, HL5.out, HG5.out⟩
      case measure => simp [intOf]; omega
    · obtain rfl : k = s.hist.length := by omega
      have hltz : ¬ (s.hist.length : Int) < (s.hist.length : Int) := by omega
      obtain rfl : pk = s.prog := Option.some.inj (HPK.out.symm.trans HOK.out.ne)
      have HSW := Lib.hid (HS2.out.grow (HGR.out.hid H))
      obtain ⟨c0, c1, c2, c3, c4, c5, c6⟩ := st_cells (HGR.out.blk HB2.out)
      go_wp2_with fail
      refine program_any H V s _ HSW.out HOK.out.pne _ ?_
      intro w6 pv hg6 hpv
      have HG6 := Lib.hid (HGR.out.trans hg6)
      have HPV2 := Lib.hid hpv.unhide
      have HLP6 := Lib.hid (HLP.out.grow hg6)
      clear hg6 hpv c0 c1 c2 c3 c4 c5 c6
      go_wp2_with fail
      refine eqL_any s.prog _ _ _ HLP6.out HPV2.out _ ?_
      intro w7 hg7
      have HG7 := Lib.hid (HG6.out.trans hg7)
      have HLP7 := Lib.hid (HLP6.out.grow hg7)
      obtain ⟨c0, c1, c2, c3, c4, c5, c6⟩ := st_cells (HG7.out.blk HB2.out)
      clear hg7
      go_wp2_with fail
      refine breaks_any H s.prog _ V s _ HLP7.out (HS2.out.grow (HG7.out.hid H)) _ ?_
      intro w8 hg8
      rw [HOK.out.holds]
      have HG8 := Lib.hid (HG7.out.trans hg8)
      clear hg8 c0 c1 c2 c3 c4 c5 c6
      have HWT := Lib.hid (show valP p = 0 from HPV.out)
      have hg08 : Grow w w8 := HG2.out.trans HG8.out
      have hL8 : LinesAt w8 t0.v p := HP0.out.grow HG8.out
      have hOD8 : TextsAt w8 (.slice V.oa s.orders.length V.oc) s.orders := (HS2.out.grow (HG8.out.hid H)).unhide.od
      have HL8 := Lib.hid hL8
      have HOD8 := Lib.hid hOD8
      have HG08 := Lib.hid hg08
      have hox : ∀ t ∈ s.orders, t.size ≤ 1000000 := fun t ht => by
        have h1 := (Bk.okT_iff.1 (List.all_eq_true.1 HOK.out.okL t ht)).2.1
        have h2 : (dl t).length = t.size := (tx_len t).symm
        omega
      have HOX := Lib.hid hox
      have hbn : (tb (bkS s.orders)).size ≤ 1000000000 := by
        have h1 := book_len s.orders hox s.orders.length (Nat.le_refl _)
        rw [List.take_length] at h1
        have h2 := HOK.out.ord
        rw [tb_size]; omega
      have HBN := Lib.hid hbn
      have hpl8 := valp_len HPV.out
      clear hg08 hL8 hOD8 hox hbn
      go_wp2_with fail
      refine wp_region_held_drew (S := fun X => Grow w8 X) (by kernel_rfl) ((Grow.refl w8).drew) (fun hH => ?_)
      refine wpAnyH_take (i := 0) (v := .pointer (some ⟨x, 0, none⟩)) rfl (by kernel_rfl) (by kernel_rfl) (by kernel_rfl) (fun _ _ _ h => h) (Or.inl ⟨by rfl, ?_⟩) hH ?_
      · intro w9 hw9
        go_simp
      try simp only [List.getElem_toArray, List.getElem_cons_zero, Act.put, List.setIfInBounds_toArray, List.set_cons_zero, List.set_cons_succ]
      refine wpAnyH_take (i := 1) (v := .slice (some ⟨pb, po, none⟩) s.progs.length V.pc) rfl (by kernel_rfl) (by kernel_rfl) (by kernel_rfl) (fun _ _ _ h => h) (Or.inl ⟨by rfl, ?_⟩) hH ?_
      · intro w9 hw9
        obtain ⟨c0, c1, c2, c3, c4, c5, c6⟩ := st_cells (Grow.blk (HG8.out.trans hw9) HB2.out)
        rw [HPA.out] at c0
        go_simp
      try simp only [List.getElem_toArray, List.getElem_cons_succ, List.getElem_cons_zero, Act.put, List.setIfInBounds_toArray, List.set_cons_zero, List.set_cons_succ]
      refine wpAnyH_take (i := 2) (v := .pointer (some ⟨pb, po, none⟩)) rfl (by kernel_rfl) (by kernel_rfl) (by kernel_rfl) (fun _ _ _ h => h) (Or.inl ⟨by rfl, ?_⟩) hH ?_
      · intro w9 hw9
        go_simp
      try simp only [List.getElem_toArray, List.getElem_cons_succ, List.getElem_cons_zero, Act.put, List.setIfInBounds_toArray, List.set_cons_zero, List.set_cons_succ]
      refine wpAnyH_take (i := 3) (v := .slice t0.a t0.n t0.c) rfl (by kernel_rfl) (by kernel_rfl) (by kernel_rfl) (fun _ _ _ h => h) (Or.inl ⟨by rfl, ?_⟩) hH ?_
      · intro w9 hw9
        have y9 := Grow.cell (HG8.out.trans hw9) HY0.out
        go_simp
      try simp only [List.getElem_toArray, List.getElem_cons_succ, List.getElem_cons_zero, Act.put, List.setIfInBounds_toArray, List.set_cons_zero, List.set_cons_succ]
      refine wpAnyH_take (i := 4) (v := .pointer (some ⟨x, 6, none⟩)) rfl (by kernel_rfl) (by kernel_rfl) (by kernel_rfl) (fun _ _ _ h => h) (Or.inl ⟨by rfl, ?_⟩) hH ?_
      · intro w9 hw9
        go_simp
      try simp only [List.getElem_toArray, List.getElem_cons_succ, List.getElem_cons_zero, Act.put, List.setIfInBounds_toArray, List.set_cons_zero, List.set_cons_succ]
      refine wpAnyH_take (i := 5) (v := .slice V.oa s.orders.length V.oc) rfl (by kernel_rfl) (by kernel_rfl) (by kernel_rfl) (fun _ _ _ h => h) (Or.inl ⟨by rfl, ?_⟩) hH ?_
      · intro w9 hw9
        obtain ⟨c0, c1, c2, c3, c4, c5, c6⟩ := st_cells (Grow.blk (HG8.out.trans hw9) HB2.out)
        go_simp
      try simp only [List.getElem_toArray, List.getElem_cons_succ, List.getElem_cons_zero, Act.put, List.setIfInBounds_toArray, List.set_cons_zero, List.set_cons_succ]
      refine wpAnyH_ready (rs := [6]) (by kernel_rfl) (by simp) ?_
      refine AllReadyH.cons rfl (fun K hK => ?_) AllReadyH.nil
      go_simp
      refine write_any s.orders _ _ (HG.out.grow (HG08.out.trans hH)) (HOD8.out.grow hH) HOX.out (by have := HOK.out.ord; omega) _ ?_
      intro w9 hg9
      go_wp2_with fail
      refine hK.out _ _ (hH.trans hg9) (fun hH2 => ?_)
      clear hK K hH
      have hH := hH2
      clear hH2
      try simp only [List.getElem_toArray, List.getElem_cons_succ, List.getElem_cons_zero, Act.put, List.setIfInBounds_toArray, List.set_cons_zero, List.set_cons_succ]
      clear hg9
      refine wpAnyH_ready (rs := [7]) (by kernel_rfl) (by simp) ?_
      refine AllReadyH.cons rfl (fun K hK => ?_) AllReadyH.nil
      go_simp
      refine Replay_any p _ (tb (bkS s.orders)) _ (HG.out.grow (HG08.out.trans hH)) (HL8.out.grow hH) (by omega) HBN.out _ ?_ ?_
      · intro n e he; rw [HBK.out] at he; cases he
      intro s9 n9 e9 he9 w9 B9 hg9 hB9 hb9 ok9
      obtain ⟨rfl, rfl, rfl⟩ : s = s9 ∧ ((s.orders.length : Nat) : Int) = n9 ∧ (0 : Int) = e9 := by
        rw [HBK.out] at he9
        injection he9 with h1 h2
        injection h1 with h1
        injection h2 with h2 h3
        exact ⟨h1, h2, h3⟩
      clear he9
      have HB9 := Lib.hid hb9
      go_wp2_with fail
      refine hK.out _ _ (hH.trans hg9) (fun hH2 => ?_)
      clear hK K hH
      have hH := hH2
      clear hH2
      try simp only [List.getElem_toArray, List.getElem_cons_succ, List.getElem_cons_zero, Act.put, List.setIfInBounds_toArray, List.set_cons_zero, List.set_cons_succ]
      clear hg9
      refine wpAnyH_take (i := 8) (v := .tuple #[.pointer (some ⟨B9, 0, none⟩), .int .i64 (s.orders.length : Nat), .int .i64 0]) rfl (by kernel_rfl) (by kernel_rfl) (by kernel_rfl) (fun _ _ _ h => h) (Or.inl ⟨by rfl, ?_⟩) hH ?_
      · intro w9 hw9
        go_simp
      try simp only [List.getElem_toArray, List.getElem_cons_succ, List.getElem_cons_zero, Act.put, List.setIfInBounds_toArray, List.set_cons_zero, List.set_cons_succ]
      refine wpAnyH_take (i := 9) (v := .pointer (some ⟨B9, 0, none⟩)) rfl (by kernel_rfl) (by kernel_rfl) (by kernel_rfl) (fun _ _ _ h => h) (Or.inl ⟨by rfl, ?_⟩) hH ?_
      · intro w9 hw9
        go_simp
      try simp only [List.getElem_toArray, List.getElem_cons_succ, List.getElem_cons_zero, Act.put, List.setIfInBounds_toArray, List.set_cons_zero, List.set_cons_succ]
      refine wpAnyH_take (i := 10) (v := .int .i64 (s.orders.length : Nat)) rfl (by kernel_rfl) (by kernel_rfl) (by kernel_rfl) (fun _ _ _ h => h) (Or.inl ⟨by rfl, ?_⟩) hH ?_
      · intro w9 hw9
        go_simp
      try simp only [List.getElem_toArray, List.getElem_cons_succ, List.getElem_cons_zero, Act.put, List.setIfInBounds_toArray, List.set_cons_zero, List.set_cons_succ]
      refine wpAnyH_take (i := 11) (v := .int .i64 0) rfl (by kernel_rfl) (by kernel_rfl) (by kernel_rfl) (fun _ _ _ h => h) (Or.inl ⟨by rfl, ?_⟩) hH ?_
      · intro w9 hw9
        go_simp
      try simp only [List.getElem_toArray, List.getElem_cons_succ, List.getElem_cons_zero, Act.put, List.setIfInBounds_toArray, List.set_cons_zero, List.set_cons_succ]
      refine wpAnyH_take (i := 12) (v := .pointer (some ⟨B9, 0, none⟩)) rfl (by kernel_rfl) (by kernel_rfl) (by kernel_rfl) (fun _ _ _ h => h) (Or.inl ⟨by rfl, ?_⟩) hH ?_
      · intro w9 hw9
        go_simp
      try simp only [List.getElem_toArray, List.getElem_cons_succ, List.getElem_cons_zero, Act.put, List.setIfInBounds_toArray, List.set_cons_zero, List.set_cons_succ]
      refine wpAnyH_take (i := 13) (v := .int .i64 (s.orders.length : Nat)) rfl (by kernel_rfl) (by kernel_rfl) (by kernel_rfl) (fun _ _ _ h => h) (Or.inl ⟨by rfl, ?_⟩) hH ?_
      · intro w9 hw9
        go_simp
      try simp only [List.getElem_toArray, List.getElem_cons_succ, List.getElem_cons_zero, Act.put, List.setIfInBounds_toArray, List.set_cons_zero, List.set_cons_succ]
      refine wpAnyH_take (i := 14) (v := .int .i64 0) rfl (by kernel_rfl) (by kernel_rfl) (by kernel_rfl) (fun _ _ _ h => h) (Or.inl ⟨by rfl, ?_⟩) hH ?_
      · intro w9 hw9
        go_simp
      try simp only [List.getElem_toArray, List.getElem_cons_succ, List.getElem_cons_zero, Act.put, List.setIfInBounds_toArray, List.set_cons_zero, List.set_cons_succ]
      refine wpAnyH_done (by kernel_rfl) ?_ _
      obtain ⟨V9, hb9b, hs9⟩ := HB9.out.blk
      have HBB := Lib.hid hb9b
      have HS9 := Lib.hid hs9
      have HG9 := Lib.hid (HG8.out.trans hH)
      clear hH hb9b hs9 hb9
      go_wp2_with fail
      refine wp_region_held_drew (S := fun X => Grow w9 X) (by kernel_rfl) ((Grow.refl w9).drew) (fun hH => ?_)
      refine wpAnyH_take (i := 0) (v := .int .i64 0) rfl (by kernel_rfl) (by kernel_rfl) (by kernel_rfl) (fun _ _ _ h => h) (Or.inl ⟨by rfl, ?_⟩) hH ?_
      · intro w9 hw9
        go_simp
      try simp only [List.getElem_toArray, List.getElem_cons_zero, Act.put, List.setIfInBounds_toArray, List.set_cons_zero, List.set_cons_succ]
      refine wpAnyH_take (i := 1) (v := .bool true) rfl (by kernel_rfl) (by kernel_rfl) (by kernel_rfl) (fun _ _ _ h => h) (Or.inl ⟨by rfl, ?_⟩) hH ?_
      · intro w9 hw9
        go_simp
      try simp only [List.getElem_toArray, List.getElem_cons_succ, List.getElem_cons_zero, Act.put, List.setIfInBounds_toArray, List.set_cons_zero, List.set_cons_succ]
      refine wpAnyH_take (i := 2) (v := .bool true) rfl (by kernel_rfl) (by kernel_rfl) (by kernel_rfl) (fun _ _ _ h => h) (Or.inl ⟨by rfl, ?_⟩) hH ?_
      · intro w9 hw9
        go_simp
      try simp only [List.getElem_toArray, List.getElem_cons_succ, List.getElem_cons_zero, Act.put, List.setIfInBounds_toArray, List.set_cons_zero, List.set_cons_succ]
      refine wpAnyH_take (i := 3) (v := .pointer (some ⟨B9, 0, none⟩)) rfl (by kernel_rfl) (by kernel_rfl) (by kernel_rfl) (fun _ _ _ h => h) (Or.inl ⟨by rfl, ?_⟩) hH ?_
      · intro w9 hw9
        go_simp
      try simp only [List.getElem_toArray, List.getElem_cons_succ, List.getElem_cons_zero, Act.put, List.setIfInBounds_toArray, List.set_cons_zero, List.set_cons_succ]
      refine wpAnyH_take (i := 4) (v := .pointer (some ⟨B9, 0, none⟩)) rfl (by kernel_rfl) (by kernel_rfl) (by kernel_rfl) (fun _ _ _ h => h) (Or.inl ⟨by rfl, ?_⟩) hH ?_
      · intro w9 hw9
        go_simp
      try simp only [List.getElem_toArray, List.getElem_cons_succ, List.getElem_cons_zero, Act.put, List.setIfInBounds_toArray, List.set_cons_zero, List.set_cons_succ]
      refine wpAnyH_take (i := 5) (v := .pointer (some ⟨B9, 2, none⟩)) rfl (by kernel_rfl) (by kernel_rfl) (by kernel_rfl) (fun _ _ _ h => h) (Or.inl ⟨by rfl, ?_⟩) hH ?_
      · intro w9 hw9
        go_simp
      try simp only [List.getElem_toArray, List.getElem_cons_succ, List.getElem_cons_zero, Act.put, List.setIfInBounds_toArray, List.set_cons_zero, List.set_cons_succ]
      refine wpAnyH_take (i := 6) (v := .agg #[.slice V9.pa s.progs.length V9.pc, .slice V9.ha s.hist.length V9.hc, .slice V9.ta s.tests.length V9.tc, .slice V9.la s.lk.length V9.lc, .int .i64 s.fixes, .int .i64 s.checks, .slice V9.oa s.orders.length V9.oc]) rfl (by kernel_rfl) (by kernel_rfl) (by kernel_rfl) (fun _ _ _ h => h) (Or.inl ⟨by rfl, ?_⟩) hH ?_
      · intro w9 hw9
        obtain ⟨b0, b1, c0, c1, c2, c3, c4, c5, c6⟩ := bm_cells (m := 0) (V := V9) (s := s) (Grow.blk hw9 HBB.out)
        go_simp
      try simp only [List.getElem_toArray, List.getElem_cons_succ, List.getElem_cons_zero, Act.put, List.setIfInBounds_toArray, List.set_cons_zero, List.set_cons_succ]
      refine wpAnyH_take (i := 7) (v := .agg #[.slice V.pa s.progs.length V.pc, .slice V.ha s.hist.length V.hc, .slice V.ta s.tests.length V.tc, .slice V.la s.lk.length V.lc, .int .i64 s.fixes, .int .i64 s.checks, .slice V.oa s.orders.length V.oc]) rfl (by kernel_rfl) (by kernel_rfl) (by kernel_rfl) (fun _ _ _ h => h) (Or.inl ⟨by rfl, ?_⟩) hH ?_
      · intro w9 hw9
        obtain ⟨c0, c1, c2, c3, c4, c5, c6⟩ := st_cells (Grow.blk (HG9.out.trans hw9) HB2.out)
        go_simp
      try simp only [List.getElem_toArray, List.getElem_cons_succ, List.getElem_cons_zero, Act.put, List.setIfInBounds_toArray, List.set_cons_zero, List.set_cons_succ]
      refine wpAnyH_ready (rs := [8]) (by kernel_rfl) (by simp) ?_
      refine AllReadyH.cons rfl (fun K hK => ?_) AllReadyH.nil
      go_simp
      refine same_any (fun k => k == B9) H V9 V s _ (HS9.out.grow (hH.hid _)) (HS2.out.grow ((HG9.out.trans hH).hid H)) HOK.out.pne _ ?_
      intro w5 hg5
      go_wp2_with fail
      refine hK.out _ _ (hH.trans hg5) (fun hH2 => ?_)
      clear hK K hH
      have hH := hH2
      clear hH2
      try simp only [List.getElem_toArray, List.getElem_cons_succ, List.getElem_cons_zero, Act.put, List.setIfInBounds_toArray, List.set_cons_zero, List.set_cons_succ]
      clear hg5
      refine wpAnyH_take (i := 9) (v := .bool true) rfl (by kernel_rfl) (by kernel_rfl) (by kernel_rfl) (fun _ _ _ h => h) (Or.inl ⟨by rfl, ?_⟩) hH ?_
      · intro w9 hw9
        go_simp
      try simp only [List.getElem_toArray, List.getElem_cons_succ, List.getElem_cons_zero, Act.put, List.setIfInBounds_toArray, List.set_cons_zero, List.set_cons_succ]
      refine wpAnyH_take (i := 10) (v := .bool true) rfl (by kernel_rfl) (by kernel_rfl) (by kernel_rfl) (fun _ _ _ h => h) (Or.inl ⟨by rfl, ?_⟩) hH ?_
      · intro w9 hw9
        go_simp
      try simp only [List.getElem_toArray, List.getElem_cons_succ, List.getElem_cons_zero, Act.put, List.setIfInBounds_toArray, List.set_cons_zero, List.set_cons_succ]
      refine wpAnyH_done (by kernel_rfl) ?_ _
      have HF := Lib.hid (HR.out _ (HG2.out.trans (HG9.out.trans hH)))
      clear hH
      go_wp2_with fail
      exact HF.out
end Go.Proofs.YtgjppekjkofdiaaGreatDoor

namespace Go.Proofs.YtgjppekjkofdiaaGreatDoor
open Go.RowKit

theorem RepB.dos {p : List Ln} {s : Bn} (h : RepB p s) : ∀ l, RepB p (dosB s l)
  | [] => h
  | t :: r => (h.do t).dos r
end Go.Proofs.YtgjppekjkofdiaaGreatDoor

namespace Go.Proofs.YtgjppekjkofdiaaGreatDoor
open Go.RowKit

theorem okL_take {l : List ByteArray} (h : okL l = true) (k : Nat) : okL (l.take k) = true :=
  List.all_eq_true.2 fun t ht => List.all_eq_true.1 h t (List.mem_of_mem_take ht)
theorem bk_bound {s : Bn} (ok : OkB s) : (bkS s.orders).length ≤ 100000000 := by
  have h1 := book_len s.orders ok.tsz s.orders.length (Nat.le_refl _)
  rw [List.take_length] at h1
  have := ok.ord
  omega
theorem RepB.take {p : List Ln} {s : Bn} (ok : OkB s) (h : RepB p s) (hp : valP p = 0) {k : Nat} (hk : k ≤ s.orders.length) :
    repB p (tb (bkS (s.orders.take k))) = (some (dosB (newB p) (s.orders.take k)), ((k : Nat) : Int), (0 : Int)) := by
  have hl : (s.orders.take k).length = k := by rw [List.length_take]; omega
  unfold repB ordB
  rw [if_neg (by rw [hp]; simp), book_read (okL_take ok.okL k) (by rw [hl]; have := ok.ord; omega)]
  dsimp only
  rw [if_neg (by simp), map_tb_dl, h.stop k hk, hl]
theorem bk_cut {l : List ByteArray} (hok : okL l = true) (hl : l.length ≤ 80) {m : Nat} (hm : m ≤ (bkS l).length) :
    ∃ (k : Nat) (r : List UInt8), k ≤ l.length ∧ Bk.readL 80 0 ((bkS l).take m) = ((l.take k).map dl, r) ∧ r.length ≤ m ∧ (bkS l).take (m - r.length) = bkS (l.take k) ∧ (r = [] ∨ k < l.length) := by
  obtain ⟨k, h1, h2, h3, h4, _⟩ := Bk.readL_take (l.map dl) 80 0 m (fun t ht => by
    obtain ⟨u, hu, rfl⟩ := List.mem_map.1 ht
    exact List.all_eq_true.1 hok u hu) (by rw [List.length_map]; exact hl) hm
  rw [List.length_map] at h1 h3
  obtain ⟨r, hr⟩ : ∃ r, (Bk.readL 80 0 ((bkS l).take m)).2 = r := ⟨_, rfl⟩
  have h2' : (Bk.readL 80 0 ((bkS l).take m)).1 = (l.take k).map dl := by rw [List.map_take]; exact h2
  have h3' : (Bk.readL 80 0 ((bkS l).take m)).2 = [] ∨ k < l.length := h3
  have h4' : (bkS l).take m = bkS (l.take k) ++ (Bk.readL 80 0 ((bkS l).take m)).2 := by
    have h := h4
    rw [← List.map_take] at h
    exact h
  rw [hr] at h3' h4'
  have hlen := congrArg List.length h4'
  rw [List.length_take, List.length_append, Nat.min_eq_left hm] at hlen
  refine ⟨k, r, h1, by rw [← h2', ← hr], by omega, ?_, h3'⟩
  have hA : (bkS (l.take k)).length = m - r.length := by omega
  have h5 : ((bkS l).take m).take (m - r.length) = bkS (l.take k) := by rw [h4', ← hA, List.take_left]
  rw [List.take_take, Nat.min_eq_left (by omega)] at h5
  exact h5
theorem difL_pre : ∀ (l : List (List UInt8)) (k : Nat), difL (l.take k) l = none ∧ difL l (l.take k) = none
  | [], k => by simp [difL]
  | a :: l, 0 => by simp [difL]
  | a :: l, k + 1 => by
    rw [List.take_succ_cons]
    unfold difL
    rw [if_pos rfl, if_pos rfl, (difL_pre l k).1, (difL_pre l k).2]
    exact ⟨rfl, rfl⟩
theorem mrg_pre {l : List ByteArray} (hok : okL l = true) (hl : l.length ≤ 80) {k : Nat} (hk : k ≤ l.length) :
    mrgB (tb (bkS (l.take k))) (tb (bkS l)) = (tb (bkS l), ((l.length : Nat) : Int), (0 : Int)) ∧ mrgB (tb (bkS l)) (tb (bkS (l.take k))) = (tb (bkS l), ((l.length : Nat) : Int), (0 : Int)) := by
  have hlk : (l.take k).length = k := by rw [List.length_take]; omega
  have r1 := book_read (okL_take hok k) (by rw [hlk]; omega)
  have r2 := book_read hok hl
  have hd := difL_pre (l.map dl) k
  rw [← List.map_take] at hd
  constructor
  · unfold mrgB
    rw [r1, r2]
    dsimp only
    rw [if_neg (by simp), hd.1]
    dsimp only
    rw [List.length_map, List.length_map, hlk]
    by_cases h : k < l.length
    · rw [if_pos h]
    · rw [if_neg h]
      have : k = l.length := by omega
      subst this
      rw [List.take_length]
  · unfold mrgB
    rw [r1, r2]
    dsimp only
    rw [if_neg (by simp), hd.2]
    dsimp only
    rw [List.length_map, List.length_map, hlk, if_neg (by omega)]
end Go.Proofs.YtgjppekjkofdiaaGreatDoor

namespace Go.Proofs.YtgjppekjkofdiaaGreatDoor
open Go.RowKit

theorem read_all {s : Bn} (ok : OkB s) : (Bk.readL 80 0 (tb (bkS s.orders)).data.toList).1.map tb = s.orders ∧ (Bk.readL 80 0 (tb (bkS s.orders)).data.toList).2 = [] := by
  rw [book_read ok.okL ok.ord]
  exact ⟨map_tb_dl _, rfl⟩

end Go.Proofs.YtgjppekjkofdiaaGreatDoor

namespace Go.Proofs.YtgjppekjkofdiaaGreatDoor
open Go.RowKit

set_option maxRecDepth 100000 in
set_option maxHeartbeats 8000000 in
theorem Tests_any (H : Nat → Bool) (B : Nat) (s : Bn) (w : World) (h : BnAt H B w s) (ok : OkB s) (R : Ending → World → Prop)
    (hR : ∀ w' v base L, Grow w w' → w.heap.size ≤ base → TqOwn base w' v L → L.map Tq.p = s.tests → R (.returned v) w') :
    Calls Tryz.prog 17 #[.pointer (some ⟨B, 0, none⟩)] w R := by
  have HR := Lib.hid hR
  have HH := Lib.hid h
  have H8 := Lib.hid ok.t8
  have HX4 := Lib.hid (fun (t : Tst) (ht : t ∈ s.tests) => show t.xs.length = 4 from (valS_ok.1 (Tst.ok_iff.1 ((valT_ok.1 ok.tst).2 t ht)).1).1)
  clear hR h ok
  go_enter Tryz.func17, Tryz.ntmps17
  go_wp2_with fail
  refine look_any H B s _ HH.out _ ?_
  intro w1 V hg1 hs1
  obtain ⟨M, hM, hMx⟩ := hs1.unhide.ts
  have hMl : M.length = s.tests.length := by rw [← hMx]; simp
  have HG1 := Lib.hid hg1
  have HM := Lib.hid hM
  have HMX := Lib.hid hMx
  rw [st_out V s]
  have hfd := fun x0 x1 x2 x3 x4 x5 x6 W => (st_field x0 x1 x2 x3 x4 x5 x6 W).2.2
  clear hs1 hM hMx
  go_wp2_with fail
  go_loopw [3, 10] (fun out i wr => ∃ (k : Nat) (L : List Tq), k ≤ s.tests.length ∧ i = .int .i64 k ∧ Grow w1 wr ∧ TqOwn w1.heap.size wr out L ∧ L.map Tq.p = s.tests.take k) (fun _ i _ => s.tests.length - (intOf i).toNat)
  case atStart => exact ⟨0, [], Nat.zero_le _, rfl, Grow.refl _, TqOwn.nil _ _, rfl⟩
  case round =>
    obtain ⟨k, L, hk, rfl, hg, how, hLx⟩ := hrel
    have HG := Lib.hid hg
    have HOW := Lib.hid how
    have HLX := Lib.hid hLx
    have hzw := hg.sz
    have hLk : L.length = k := by have := congrArg List.length hLx; simp at this; omega
    clear hg how hLx
    by_cases hlt : k < s.tests.length
    · have hlt2 : (k : Int) < (s.tests.length : Int) := by omega
      have hk8 : k < 8 := by have := H8.out; omega
      obtain ⟨q, hq⟩ : ∃ q, M[k]? = some q := ⟨_, List.getElem?_eq_getElem (by omega)⟩
      obtain ⟨mb, mo, hta, hmb, m0, m1, m2⟩ := tq_at (HM.out.grow HG.out).at_ hq
      have hqk : s.tests[k]? = some q.p := by rw [← HMX.out, List.getElem?_map, hq]; rfl
      have hx4 := HX4.out q.p (List.mem_of_getElem? hqk)
      have HI := Lib.hid ((HM.out.grow HG.out).ins q (List.mem_of_getElem? hq))
      have HLN := Lib.hid (show s.tests.take (k + 1) = s.tests.take k ++ [q.p] by rw [List.take_add_one, hqk]; rfl)
      have HLE := Lib.hid (show L.length < 100000000000 by have := H8.out; omega)
      have hx4' : q.xs.length = 4 := hx4
      rw [hta]
      clear hqk hq hLk hta hx4
      obtain ⟨qa, qn, qc, qx, qo, qw⟩ := q
      dsimp only at m0 m1 m2 HI HLN hx4'
      have HXQ := Lib.hid hx4'
      clear hx4'
      go_upto_region 5 with fail
      obtain ⟨w2, hw2⟩ : ∃ z : World, z = wr.alloc (.cells #[.slice qa qn qc, .int .i64 qo, .int .i64 qw] 101) := ⟨_, rfl⟩
      change Code.wp _ _ _ _ (wr.alloc (.cells #[.slice qa qn qc, .int .i64 qo, .int .i64 qw] 101))
      have hg2 : Grow wr w2 := by rw [hw2]; exact (Grow.refl wr).alloc _
      have hb2 : w2.heap[wr.heap.size]? = some (.cells #[.slice qa qn qc, .int .i64 qo, .int .i64 qw] 101 (0, 0)) := by rw [hw2]; exact heap_alloc_new _ _
      rw [← hw2]
      obtain ⟨x, hx⟩ : ∃ z, wr.heap.size = z := ⟨_, rfl⟩
      have hx1 : w1.heap.size ≤ x := by omega
      rw [hx] at hb2 ⊢
      have HB2 := Lib.hid hb2
      have HI2 := Lib.hid (HI.out.grow hg2)
      have HG2 := Lib.hid (HG.out.trans hg2)
      have HO2 := Lib.hid (HOW.out.grow hg2)
      have HOWL := Lib.hid (fun b (hb : u3.ownBlock = some b) => show b < x from by rw [← hx]; exact HOW.out.lt hb)
      have hbase2 : w1.heap.size ≤ w2.heap.size := HG2.out.sz
      clear hw2 hg2 hb2 hx m0 m1 m2 HOW HI
      go_wp2_with fail
      refine wp_region_held_drew (S := fun X => X.heap[x]? = some (.cells #[.slice qa qn qc, .int .i64 qo, .int .i64 qw] 101 (0, 0)) ∧ Grow w1 X) (by kernel_rfl) ⟨(Grow.refl w2).drew.blk HB2.out, HG2.out.trans (Grow.refl w2).drew⟩ (fun hH => ?_)
      refine wpAnyH_take (i := 0) (v := u3) rfl (by kernel_rfl) (by kernel_rfl) (by kernel_rfl) (fun _ _ _ h => h) (Or.inl ⟨by rfl, ?_⟩) hH ?_
      · intro w9 hw9
        go_simp
      try simp only [List.getElem_toArray, List.getElem_cons_zero, Act.put, List.setIfInBounds_toArray, List.set_cons_zero, List.set_cons_succ]
      refine wpAnyH_take (i := 1) (v := .pointer (some ⟨x, 0, none⟩)) rfl (by kernel_rfl) (by kernel_rfl) (by kernel_rfl) (fun _ _ _ h => h) (Or.inl ⟨by rfl, ?_⟩) hH ?_
      · intro w9 hw9
        go_simp
      try simp only [List.getElem_toArray, List.getElem_cons_succ, List.getElem_cons_zero, Act.put, List.setIfInBounds_toArray, List.set_cons_zero, List.set_cons_succ]
      refine wpAnyH_take (i := 2) (v := .slice qa qn qc) rfl (by kernel_rfl) (by kernel_rfl) (by kernel_rfl) (fun _ _ _ h => h) (Or.inl ⟨by rfl, ?_⟩) hH ?_
      · intro w9 hw9
        obtain ⟨y0, y1, y2⟩ := box3 hw9.1
        go_simp
      try simp only [List.getElem_toArray, List.getElem_cons_succ, List.getElem_cons_zero, Act.put, List.setIfInBounds_toArray, List.set_cons_zero, List.set_cons_succ]
      refine wpAnyH_take (i := 4) (v := .pointer (some ⟨x, 1, none⟩)) rfl (by kernel_rfl) (by kernel_rfl) (by kernel_rfl) (fun _ _ _ h => h) (Or.inl ⟨by rfl, ?_⟩) hH ?_
      · intro w9 hw9
        go_simp
      try simp only [List.getElem_toArray, List.getElem_cons_succ, List.getElem_cons_zero, Act.put, List.setIfInBounds_toArray, List.set_cons_zero, List.set_cons_succ]
      refine wpAnyH_take (i := 5) (v := .int .i64 qo) rfl (by kernel_rfl) (by kernel_rfl) (by kernel_rfl) (fun _ _ _ h => h) (Or.inl ⟨by rfl, ?_⟩) hH ?_
      · intro w9 hw9
        obtain ⟨y0, y1, y2⟩ := box3 hw9.1
        go_simp
      try simp only [List.getElem_toArray, List.getElem_cons_succ, List.getElem_cons_zero, Act.put, List.setIfInBounds_toArray, List.set_cons_zero, List.set_cons_succ]
      refine wpAnyH_take (i := 6) (v := .pointer (some ⟨x, 2, none⟩)) rfl (by kernel_rfl) (by kernel_rfl) (by kernel_rfl) (fun _ _ _ h => h) (Or.inl ⟨by rfl, ?_⟩) hH ?_
      · intro w9 hw9
        go_simp
      try simp only [List.getElem_toArray, List.getElem_cons_succ, List.getElem_cons_zero, Act.put, List.setIfInBounds_toArray, List.set_cons_zero, List.set_cons_succ]
      refine wpAnyH_take (i := 7) (v := .int .i64 qw) rfl (by kernel_rfl) (by kernel_rfl) (by kernel_rfl) (fun _ _ _ h => h) (Or.inl ⟨by rfl, ?_⟩) hH ?_
      · intro w9 hw9
        obtain ⟨y0, y1, y2⟩ := box3 hw9.1
        go_simp
      try simp only [List.getElem_toArray, List.getElem_cons_succ, List.getElem_cons_zero, Act.put, List.setIfInBounds_toArray, List.set_cons_zero, List.set_cons_succ]
      refine wpAnyH_ready (rs := [3]) (by kernel_rfl) (by simp) ?_
      refine AllReadyH.cons rfl (fun K hK => ?_) AllReadyH.nil
      go_simp
      refine clI_any qx _ _ (HI2.out.grow (Grow.refl w2).drew) (by have := HXQ.out; omega) _ ?_
      intro w3 v3 hg3 hv3
      go_wp2_with fail
      have HG3 := Lib.hid (show Grow w2 w3 from (Grow.refl w2).drew.trans hg3)
      have HO3 := Lib.hid (show Own 1 encI w2.heap.size w3 v3 qx from ⟨_, hv3⟩)
      obtain ⟨a3, c3, rfl, q1, q2, jk3⟩ := HO3.out.slc encI_len
      have HS3 := Lib.hid (HO3.out.slc encI_len)
      have HB1 := Lib.hid (HO2.out.new hbase2 HO3.out)
      clear jk3 hv3
      refine hK.out _ _ ⟨hg3.blk hH.1, hH.2.trans hg3⟩ (fun hH2 => ?_)
      clear hK K hH
      have hH := hH2
      clear hH2
      try simp only [List.getElem_toArray, List.getElem_cons_succ, List.getElem_cons_zero, Act.put, List.setIfInBounds_toArray, List.set_cons_zero, List.set_cons_succ]
      clear hg3
      refine wpAnyH_take (i := 8) (v := .agg #[.slice a3 qx.length c3, .int .i64 qo, .int .i64 qw]) rfl (by kernel_rfl) (by kernel_rfl) (by kernel_rfl) (fun _ _ _ h => h) (Or.inl ⟨by rfl, ?_⟩) hH ?_
      · intro w9 hw9
        go_simp
      try simp only [List.getElem_toArray, List.getElem_cons_succ, List.getElem_cons_zero, Act.put, List.setIfInBounds_toArray, List.set_cons_zero, List.set_cons_succ]
      refine wpAnyH_ready (rs := [9]) (by kernel_rfl) (by simp) ?_
      refine AllReadyH.cons rfl (fun K hK => ?_) AllReadyH.nil
      go_simp
      refine hK.out _ _ ⟨((Grow.refl w3).alloc _).blk hH.1, hH.2.alloc _⟩ (fun hH2 => ?_)
      clear hK K hH
      have hH := hH2
      clear hH2
      try simp only [List.getElem_toArray, List.getElem_cons_succ, List.getElem_cons_zero, Act.put, List.setIfInBounds_toArray, List.set_cons_zero, List.set_cons_succ]
      have hg34 : Grow w3 (w3.alloc (.cells #[.slice a3 qx.length c3, .int .i64 qo, .int .i64 qw] 101)) := (Grow.refl w3).alloc _
      have HO4 := Lib.hid (HO2.out.grow (HG3.out.trans hg34))
      refine wpAnyH_ready (rs := [10]) (by kernel_rfl) (by simp) ?_
      refine AllReadyH.cons rfl (fun K hK => ?_) AllReadyH.nil
      refine step_appB rfl (.tmp 14) (.tmp 23) 36 rfl w1.heap.size 101 Tryz.underlying36 b_info_ts rfl (by decide) (by decide) encTq encTq_len encTq_one u3 L (by simp [Act.eval]) HO4.out.row ⟨w3.heap.size, 0, none⟩ (⟨a3, qx.length, c3, qx, qo, qw⟩ : Tq) 1 (by simp [Act.eval] <;> rfl) (news_blk (heap_alloc_new w3 (.cells #[.slice a3 qx.length c3, .int .i64 qo, .int .i64 qw] 101))) HLE.out hH.2.sz ?_
      intro v6 w6 hown6 hgr6 hat6
      have HG6 := Lib.hid (show Grow w1 w6 from grown_below HO4.out.row hgr6 (Nat.le_refl _) hH.2.sz hH.2)
      have hkx : w6.heap[x]? = some (.cells #[.slice qa qn qc, .int .i64 qo, .int .i64 qw] 101 (0, 0)) := by
        rw [hgr6.block x (lt_of_block hH.1) (fun e => by have h1 := HOWL.out x e.symm; omega)]
        exact hH.1
      have HO6 := Lib.hid (HO4.out.app (t := (⟨a3, qx.length, c3, qx, qo, qw⟩ : Tq)) hgr6 hown6 hat6 (HS3.out.grow hg34) fun b o s hb => ⟨(HB1.out b o s hb).1, Nat.lt_of_lt_of_le (HB1.out b o s hb).2.1 hg34.sz, (HB1.out b o s hb).2.2⟩)
      clear hown6 hgr6 hat6 hg34
      refine hK.out _ _ ⟨hkx, HG6.out⟩ (fun hH2 => ?_)
      clear hK K hH
      have hH := hH2
      clear hH2
      try simp only [List.getElem_toArray, List.getElem_cons_succ, List.getElem_cons_zero, Act.put, List.setIfInBounds_toArray, List.set_cons_zero, List.set_cons_succ]
      clear hkx
      refine wpAnyH_take (i := 11) (v := v6) rfl (by kernel_rfl) (by kernel_rfl) (by kernel_rfl) (fun _ _ _ h => h) (Or.inl ⟨by rfl, ?_⟩) hH ?_
      · intro w9 hw9
        go_simp
      try simp only [List.getElem_toArray, List.getElem_cons_succ, List.getElem_cons_zero, Act.put, List.setIfInBounds_toArray, List.set_cons_zero, List.set_cons_succ]
      refine wpAnyH_done (by kernel_rfl) ?_ _
      clear hH
      go_wp2_with fail
      go_roundw
      case rel => exact ⟨k + 1, L ++ [⟨a3, qx.length, c3, qx, qo, qw⟩], by omega, by go_num, HG6.out, HO6.out, by rw [HLN.out, List.map_append, HLX.out]; rfl⟩
      case measure => simp [intOf]; omega
    · obtain rfl : k = s.tests.length := by omega
      have hltz : ¬ (s.tests.length : Int) < (s.tests.length : Int) := by omega
      have hLx := HLX.out
      rw [List.take_length] at hLx
      have HF := Lib.hid (HR.out wr _ w1.heap.size L (HG1.out.trans HG.out) HG1.out.sz HOW.out hLx)
      clear hLx
      go_wp2_with fail
      exact HF.out
end Go.Proofs.YtgjppekjkofdiaaGreatDoor

namespace Go.Proofs.YtgjppekjkofdiaaGreatDoor
open Go.RowKit

theorem failT {p : List Ln} {T : List Tq} {ts : List Tst} (h : T.map Tq.p = ts) : ifOK (chkT p (T.map Tq.t)) (whereL (fun t => !passM p t) (T.map Tq.t)) = failB p ts := by
  rw [← h, ← noV_t, failB_noV]; rfl
theorem chkT_q {p : List Ln} {T : List Tq} {ts : List Tst} (h : T.map Tq.p = ts) : chkT p (T.map Tq.t) = chkT p ts := by rw [← h, ← noV_t, chkT_noV]
set_option maxRecDepth 100000 in
set_option maxHeartbeats 8000000 in
theorem Stands_any (H : Nat → Bool) (B : Nat) (s : Bn) (p : List Ln) (v : Value) (w : World) (h : BnAt H B w s) (ok : OkB s) (hp : LinesAt w v p) (h0 : s.progs[0]? = some p) (R : Ending → World → Prop)
    (hR : ∀ w', Grow w w' → R (.returned (.bool true)) w') :
    Calls Tryz.prog 23 #[.pointer (some ⟨B, 0, none⟩), v] w R := by
  have HR := Lib.hid hR
  have HH := Lib.hid h
  have HOK := Lib.hid ok
  have HP := Lib.hid hp
  have HPL := Lib.hid (play_all ok h0)
  have HHO := Lib.hid (hist_ok ok h0)
  have HPV := Lib.hid (ok.val p (List.mem_of_getElem? h0))
  clear hR h ok hp h0
  go_enter Tryz.func23, Tryz.ntmps23
  go_wp2_with fail
  refine Program_any H B s _ HH.out HOK.out _ ?_
  intro w1 pv base1 hg1 hb1 ho1
  have HP1 := Lib.hid (show LinesAt w1 pv s.prog from slc_of_owns encL_len ho1)
  have HG1 := Lib.hid hg1
  have HH1 := Lib.hid (HH.out.grow hg1)
  clear hg1 hb1 ho1
  go_wp2_with fail
  refine Tests_any H B s _ HH1.out HOK.out _ ?_
  intro w2 tv base2 T hg2 hb2 ht2 hx2
  have HT2 := Lib.hid (show TestsAt w2 tv (T.map Tq.t) from ht2.at_.tests)
  have HTX := Lib.hid hx2
  have HG2 := Lib.hid (HG1.out.trans hg2)
  have HP2 := Lib.hid (HP1.out.grow hg2)
  have HH2 := Lib.hid (HH1.out.grow hg2)
  have htl : (T.map Tq.t).length = s.tests.length := by rw [List.length_map, ← hx2, List.length_map]
  have ht8 := HOK.out.t8
  obtain ⟨ta, tc, rfl, t1, t2, jkt⟩ := HT2.out.at_
  rw [htl] at t1 ⊢
  have HT2b := Lib.hid (show TestsAt w2 (.slice ta s.tests.length tc) (T.map Tq.t) by rw [← htl]; exact HT2.out)
  clear hg2 hb2 ht2 hx2 jkt HT2 HP1 HH1
  go_wp2_with fail
  refine Locked_any H B s _ HH2.out HOK.out _ ?_
  intro w3 lv base3 hg3 hb3 ho3
  have HL3 := Lib.hid (show IntsAt w3 lv s.lk from slc_of_owns encI_len ho3)
  have HG3 := Lib.hid (HG2.out.trans hg3)
  have HG23 := Lib.hid hg3
  have HP3 := Lib.hid (HP2.out.grow hg3)
  have HH3 := Lib.hid (HH2.out.grow hg3)
  obtain ⟨la, lc, rfl, l1, l2, jkl⟩ := slc_of_owns encI_len ho3
  clear hg3 hb3 ho3 jkl HP2 HH2
  go_wp2_with fail
  refine Failing9_any H B s _ HH3.out HOK.out _ ?_
  intro w4 fv base4 hg4 hb4 ho4
  have HF4 := Lib.hid (show IntsAt w4 fv (failB s.prog s.tests) from ho4.slc encI_len)
  have HG4 := Lib.hid (HG3.out.trans hg4)
  have HG24 := Lib.hid (HG23.out.trans hg4)
  have HP4 := Lib.hid (HP3.out.grow hg4)
  have HL4 := Lib.hid (HL3.out.grow hg4)
  have HH4 := Lib.hid (HH3.out.grow hg4)
  obtain ⟨fa, fc, rfl, f1, f2, jkf⟩ := HF4.out
  clear hg4 hb4 ho4 jkf HP3 HH3 HL3
  go_wp2_with fail
  refine History_any H B s _ HH4.out HOK.out _ ?_
  intro w5 hv base5 L hg5 hb5 hn5 hl5 hx5
  have HG5 := Lib.hid (HG4.out.trans hg5)
  have HG25 := Lib.hid (HG24.out.trans hg5)
  have HP5 := Lib.hid (HP4.out.grow hg5)
  have HL5 := Lib.hid (HL4.out.grow hg5)
  have HF5 := Lib.hid (HF4.out.grow hg5)
  have HHL := Lib.hid hl5
  have HHX := Lib.hid hx5
  have hLl : L.length = s.hist.length := by rw [← hx5]; simp
  have h8 := HOK.out.h8
  obtain ⟨ha, hc, rfl, h1, h2, jkh⟩ := hl5.at_
  rw [hLl] at h1 ⊢
  have HHLb := Lib.hid (show LlAt 5 encE w5 (.slice ha s.hist.length hc) L by rw [← hLl]; exact HHL.out)
  clear hg5 hb5 hn5 hl5 hx5 jkh HP4 HH4 HL4 HF4 HHL hLl
  go_wp2_with fail
  refine Play_any p s.hist L _ _ _ (HP.out.grow HG5.out) HHLb.out HHX.out HPV.out h8 HHO.out _ ?_
  intro w6 qv hg6 hq6
  rw [HPL.out] at hq6
  have HQ6 := Lib.hid hq6
  have HG6 := Lib.hid (HG5.out.trans hg6)
  have HG26 := Lib.hid (HG25.out.trans hg6)
  have HP6 := Lib.hid (HP5.out.grow hg6)
  have HL6 := Lib.hid (HL5.out.grow hg6)
  have HF6 := Lib.hid (HF5.out.grow hg6)
  clear hg6 hq6 HP5 HL5 HF5
  go_wp2_with fail
  refine Failing_any s.prog (T.map Tq.t) _ _ _ HP6.out ⟨HT2b.out.at_.grow HG26.out, fun t ht => (HT2b.out.ins t ht).grow HG26.out⟩ _ ?_
  intro w7 x7 hg7 hx7
  rw [failT HTX.out] at hx7
  rw [chkT_q HTX.out, HOK.out.chk]
  have HX7 := Lib.hid (show IntsAt w7 x7 (failB s.prog s.tests) from hx7.slc encI_len)
  have HG7 := Lib.hid (HG6.out.trans hg7)
  have HP7 := Lib.hid (HP6.out.grow hg7)
  have HL7 := Lib.hid (HL6.out.grow hg7)
  have HF7 := Lib.hid (HF6.out.grow hg7)
  have HQ7 := Lib.hid (HQ6.out.grow hg7)
  clear hg7 hx7 HP6 HL6 HF6 HQ6
  go_wp2_with fail
  refine rsame4_any s.prog s.prog _ _ _ HP7.out HQ7.out _ ?_
  intro w8 hg8
  rw [decide_eq_true (rfl : s.prog = s.prog)]
  have HG8 := Lib.hid (HG7.out.trans hg8)
  have HL8 := Lib.hid (HL7.out.grow hg8)
  have HF8 := Lib.hid (HF7.out.grow hg8)
  have HX8 := Lib.hid (HX7.out.grow hg8)
  clear hg8 HP7 HQ7 HL7 HF7 HX7
  go_wp2_with fail
  refine rsameI4_any (failB s.prog s.tests) (failB s.prog s.tests) _ _ _ HX8.out HF8.out _ ?_
  intro w9 hg9
  rw [decide_eq_true (rfl : failB s.prog s.tests = failB s.prog s.tests)]
  have HG9 := Lib.hid (HG8.out.trans hg9)
  have HL9 := Lib.hid (HL8.out.grow hg9)
  have HF9 := Lib.hid (HF8.out.grow hg9)
  have t8z : decide ((s.tests.length : Int) > 8) = false := by rw [decide_eq_false_iff_not]; omega
  have h8z : decide ((s.hist.length : Int) > 8) = false := by rw [decide_eq_false_iff_not]; omega
  clear hg9 HL8 HF8 HX8
  go_wp2_with fail
  go_loopw [14] (fun s8 wr => ∃ k : Nat, k ≤ s.lk.length ∧ s8 = .int .i64 k ∧ Grow w9 wr) (fun s8 _ => s.lk.length - (intOf s8).toNat)
  case atStart => exact ⟨0, Nat.zero_le _, rfl, Grow.refl _⟩
  case round =>
  obtain ⟨k, hk, rfl, hgr⟩ := hrel
  have HGR := Lib.hid hgr
  clear hgr
  by_cases hlt : k < s.lk.length
  · have hltz : (k : Int) < (s.lk.length : Int) := by omega
    obtain ⟨x, hx⟩ : ∃ x, s.lk[k]? = some x := ⟨_, List.getElem?_eq_getElem hlt⟩
    obtain ⟨b, o, rfl, hbl, y0⟩ := ints_at (HL9.out.grow HGR.out) hx
    obtain ⟨s1, s2, s3⟩ := lock_stands HOK.out (List.mem_of_getElem? hx)
    have HC := Lib.hid (show (failB s.prog s.tests).contains x = false by rw [← Bool.not_eq_true, List.contains_iff_mem]; exact s3)
    have s1z : decide (x < 0) = false := by rw [decide_eq_false_iff_not]; omega
    have s2z : decide (x ≥ (s.tests.length : Int)) = false := by rw [decide_eq_false_iff_not]; omega
    clear hx s3
    go_wp2_with fail
    refine has4_any (failB s.prog s.tests) x _ _ (HF9.out.grow HGR.out) _ ?_
    intro w10 hg10
    rw [HC.out]
    have HG10 := Lib.hid (HGR.out.trans hg10)
    clear hg10 y0
    go_wp2_with fail
    go_roundw
    case rel => exact ⟨k + 1, by omega, by go_num, HG10.out⟩
    case measure => simp [intOf]; omega
  · obtain rfl : k = s.lk.length := by omega
    have hltz : ¬ (s.lk.length : Int) < (s.lk.length : Int) := by omega
    have HF := Lib.hid (HR.out wr (HG9.out.trans HGR.out))
    go_wp2_with fail
    exact HF.out
end Go.Proofs.YtgjppekjkofdiaaGreatDoor

namespace Go.Proofs.YtgjppekjkofdiaaGreatDoor
open Go.RowKit

set_option maxRecDepth 100000 in
set_option maxHeartbeats 8000000 in
theorem rSameTests_any (ts : List Tst) (X Y : List Tq) (v u : Value) (w : World) (hx : TqAt w v X) (hy : TqAt w u Y) (hX : X.map Tq.p = ts) (hY : Y.map Tq.p = ts) (R : Ending → World → Prop) (hR : ∀ w', Grow w w' → R (.returned (.bool true)) w') :
    Calls Tryz.prog 38 #[v, u] w R := by
  have HR := Lib.hid hR
  have hxl : X.length = ts.length := by rw [← hX]; simp
  have hyl : Y.length = ts.length := by rw [← hY]; simp
  obtain ⟨xa, xc, rfl, x1, x2, jk1⟩ := hx.at_
  obtain ⟨ya, yc, rfl, y1, y2, jk2⟩ := hy.at_
  rw [hxl] at x1 hx ⊢
  rw [hyl] at y1 hy ⊢
  have HX3 := Lib.hid hx
  have HY3 := Lib.hid hy
  have HPA := Lib.hid (fun (k : Nat) (hk : k < ts.length) => pair_at hX hY hk)
  clear hR hx hy hX hY jk1 jk2 hxl hyl
  go_enter Tryz.func38, Tryz.ntmps38
  go_wp2_with fail
  go_loopw [5] (fun s7 wr => ∃ k : Nat, k ≤ ts.length ∧ s7 = .int .i64 k ∧ Grow w wr) (fun s7 _ => ts.length - (intOf s7).toNat)
  case atStart => exact ⟨0, Nat.zero_le _, rfl, Grow.refl _⟩
  case round =>
  obtain ⟨k, hk, rfl, hgr⟩ := hrel
  have HGR := Lib.hid hgr
  clear hgr
  by_cases hlt : k < ts.length
  · have hltz : (k : Int) < (ts.length : Int) := by omega
    obtain ⟨q, r, hq, hr, hqr⟩ := HPA.out k hlt
    obtain ⟨b, o, rfl, hb, c0, c1, c2⟩ := tq_at (HX3.out.grow HGR.out).at_ hq
    obtain ⟨b2, o2, rfl, hb2, d0, d1, d2⟩ := tq_at (HY3.out.grow HGR.out).at_ hr
    have HI := Lib.hid ((HX3.out.grow HGR.out).ins q (List.mem_of_getElem? hq))
    have HJ := Lib.hid ((HY3.out.grow HGR.out).ins r (List.mem_of_getElem? hr))
    obtain ⟨qa, qn, qc, qx, qo, qw⟩ := q
    obtain ⟨ra, rn, rc, rx, ro, rw_⟩ := r
    dsimp only at c0 c1 c2 d0 d1 d2 HI HJ
    unfold Tq.p at hqr
    injection hqr with _ e2 e3 e4
    dsimp only at e2 e3 e4
    subst e2 e3 e4
    clear hq hr
    go_wp2_with fail
    refine wp_region_held_drew (S := fun X => Grow wr X) (by kernel_rfl) ((Grow.refl wr).drew) (fun hH => ?_)
    refine wpAnyH_take (i := 0) (v := .slice (some ⟨b, o, none⟩) ts.length xc) rfl (by kernel_rfl) (by kernel_rfl) (by kernel_rfl) (fun _ _ _ h => h) (Or.inl ⟨by rfl, ?_⟩) hH ?_
    · intro w9 hw9
      go_simp
    try simp only [List.getElem_toArray, List.getElem_cons_zero, Act.put, List.setIfInBounds_toArray, List.set_cons_zero, List.set_cons_succ]
    refine wpAnyH_take (i := 1) (v := .int .i64 (k : Nat)) rfl (by kernel_rfl) (by kernel_rfl) (by kernel_rfl) (fun _ _ _ h => h) (Or.inl ⟨by rfl, ?_⟩) hH ?_
    · intro w9 hw9
      go_simp
    try simp only [List.getElem_toArray, List.getElem_cons_succ, List.getElem_cons_zero, Act.put, List.setIfInBounds_toArray, List.set_cons_zero, List.set_cons_succ]
    refine wpAnyH_take (i := 2) (v := .pointer (some ⟨b, o + k * 3, none⟩)) rfl (by kernel_rfl) (by kernel_rfl) (by kernel_rfl) (fun _ _ _ h => h) (Or.inl ⟨by rfl, ?_⟩) hH ?_
    · intro w9 hw9
      go_simp
    try simp only [List.getElem_toArray, List.getElem_cons_succ, List.getElem_cons_zero, Act.put, List.setIfInBounds_toArray, List.set_cons_zero, List.set_cons_succ]
    refine wpAnyH_take (i := 3) (v := .pointer (some ⟨b, o + k * 3 + 1, none⟩)) rfl (by kernel_rfl) (by kernel_rfl) (by kernel_rfl) (fun _ _ _ h => h) (Or.inl ⟨by rfl, ?_⟩) hH ?_
    · intro w9 hw9
      go_simp
    try simp only [List.getElem_toArray, List.getElem_cons_succ, List.getElem_cons_zero, Act.put, List.setIfInBounds_toArray, List.set_cons_zero, List.set_cons_succ]
    refine wpAnyH_take (i := 4) (v := .int .i64 qo) rfl (by kernel_rfl) (by kernel_rfl) (by kernel_rfl) (fun _ _ _ h => h) (Or.inl ⟨by rfl, ?_⟩) hH ?_
    · intro w9 hw9
      have z9 := Grow.cell hw9 c1
      go_simp
    try simp only [List.getElem_toArray, List.getElem_cons_succ, List.getElem_cons_zero, Act.put, List.setIfInBounds_toArray, List.set_cons_zero, List.set_cons_succ]
    refine wpAnyH_take (i := 5) (v := .slice (some ⟨b2, o2, none⟩) ts.length yc) rfl (by kernel_rfl) (by kernel_rfl) (by kernel_rfl) (fun _ _ _ h => h) (Or.inl ⟨by rfl, ?_⟩) hH ?_
    · intro w9 hw9
      go_simp
    try simp only [List.getElem_toArray, List.getElem_cons_succ, List.getElem_cons_zero, Act.put, List.setIfInBounds_toArray, List.set_cons_zero, List.set_cons_succ]
    refine wpAnyH_take (i := 6) (v := .int .i64 (k : Nat)) rfl (by kernel_rfl) (by kernel_rfl) (by kernel_rfl) (fun _ _ _ h => h) (Or.inl ⟨by rfl, ?_⟩) hH ?_
    · intro w9 hw9
      go_simp
    try simp only [List.getElem_toArray, List.getElem_cons_succ, List.getElem_cons_zero, Act.put, List.setIfInBounds_toArray, List.set_cons_zero, List.set_cons_succ]
    refine wpAnyH_take (i := 7) (v := .pointer (some ⟨b2, o2 + k * 3, none⟩)) rfl (by kernel_rfl) (by kernel_rfl) (by kernel_rfl) (fun _ _ _ h => h) (Or.inl ⟨by rfl, ?_⟩) hH ?_
    · intro w9 hw9
      go_simp
    try simp only [List.getElem_toArray, List.getElem_cons_succ, List.getElem_cons_zero, Act.put, List.setIfInBounds_toArray, List.set_cons_zero, List.set_cons_succ]
    refine wpAnyH_take (i := 8) (v := .pointer (some ⟨b2, o2 + k * 3 + 1, none⟩)) rfl (by kernel_rfl) (by kernel_rfl) (by kernel_rfl) (fun _ _ _ h => h) (Or.inl ⟨by rfl, ?_⟩) hH ?_
    · intro w9 hw9
      go_simp
    try simp only [List.getElem_toArray, List.getElem_cons_succ, List.getElem_cons_zero, Act.put, List.setIfInBounds_toArray, List.set_cons_zero, List.set_cons_succ]
    refine wpAnyH_take (i := 9) (v := .int .i64 qo) rfl (by kernel_rfl) (by kernel_rfl) (by kernel_rfl) (fun _ _ _ h => h) (Or.inl ⟨by rfl, ?_⟩) hH ?_
    · intro w9 hw9
      have z9 := Grow.cell hw9 d1
      go_simp
    try simp only [List.getElem_toArray, List.getElem_cons_succ, List.getElem_cons_zero, Act.put, List.setIfInBounds_toArray, List.set_cons_zero, List.set_cons_succ]
    refine wpAnyH_take (i := 10) (v := .bool false) rfl (by kernel_rfl) (by kernel_rfl) (by kernel_rfl) (fun _ _ _ h => h) (Or.inl ⟨by rfl, ?_⟩) hH ?_
    · intro w9 hw9
      go_simp
    try simp only [List.getElem_toArray, List.getElem_cons_succ, List.getElem_cons_zero, Act.put, List.setIfInBounds_toArray, List.set_cons_zero, List.set_cons_succ]
    refine wpAnyH_take (i := 11) (v := .bool false) rfl (by kernel_rfl) (by kernel_rfl) (by kernel_rfl) (fun _ _ _ h => h) (Or.inl ⟨by rfl, ?_⟩) hH ?_
    · intro w9 hw9
      go_simp
    try simp only [List.getElem_toArray, List.getElem_cons_succ, List.getElem_cons_zero, Act.put, List.setIfInBounds_toArray, List.set_cons_zero, List.set_cons_succ]
    refine wpAnyH_take (i := 12) (v := .slice (some ⟨b, o, none⟩) ts.length xc) rfl (by kernel_rfl) (by kernel_rfl) (by kernel_rfl) (fun _ _ _ h => h) (Or.inl ⟨by rfl, ?_⟩) hH ?_
    · intro w9 hw9
      go_simp
    try simp only [List.getElem_toArray, List.getElem_cons_succ, List.getElem_cons_zero, Act.put, List.setIfInBounds_toArray, List.set_cons_zero, List.set_cons_succ]
    refine wpAnyH_take (i := 13) (v := .int .i64 (k : Nat)) rfl (by kernel_rfl) (by kernel_rfl) (by kernel_rfl) (fun _ _ _ h => h) (Or.inl ⟨by rfl, ?_⟩) hH ?_
    · intro w9 hw9
      go_simp
    try simp only [List.getElem_toArray, List.getElem_cons_succ, List.getElem_cons_zero, Act.put, List.setIfInBounds_toArray, List.set_cons_zero, List.set_cons_succ]
    refine wpAnyH_take (i := 14) (v := .pointer (some ⟨b, o + k * 3, none⟩)) rfl (by kernel_rfl) (by kernel_rfl) (by kernel_rfl) (fun _ _ _ h => h) (Or.inl ⟨by rfl, ?_⟩) hH ?_
    · intro w9 hw9
      go_simp
    try simp only [List.getElem_toArray, List.getElem_cons_succ, List.getElem_cons_zero, Act.put, List.setIfInBounds_toArray, List.set_cons_zero, List.set_cons_succ]
    refine wpAnyH_take (i := 15) (v := .pointer (some ⟨b, o + k * 3 + 2, none⟩)) rfl (by kernel_rfl) (by kernel_rfl) (by kernel_rfl) (fun _ _ _ h => h) (Or.inl ⟨by rfl, ?_⟩) hH ?_
    · intro w9 hw9
      go_simp
    try simp only [List.getElem_toArray, List.getElem_cons_succ, List.getElem_cons_zero, Act.put, List.setIfInBounds_toArray, List.set_cons_zero, List.set_cons_succ]
    refine wpAnyH_take (i := 16) (v := .int .i64 qw) rfl (by kernel_rfl) (by kernel_rfl) (by kernel_rfl) (fun _ _ _ h => h) (Or.inl ⟨by rfl, ?_⟩) hH ?_
    · intro w9 hw9
      have z9 := Grow.cell hw9 c2
      go_simp
    try simp only [List.getElem_toArray, List.getElem_cons_succ, List.getElem_cons_zero, Act.put, List.setIfInBounds_toArray, List.set_cons_zero, List.set_cons_succ]
    refine wpAnyH_take (i := 17) (v := .slice (some ⟨b2, o2, none⟩) ts.length yc) rfl (by kernel_rfl) (by kernel_rfl) (by kernel_rfl) (fun _ _ _ h => h) (Or.inl ⟨by rfl, ?_⟩) hH ?_
    · intro w9 hw9
      go_simp
    try simp only [List.getElem_toArray, List.getElem_cons_succ, List.getElem_cons_zero, Act.put, List.setIfInBounds_toArray, List.set_cons_zero, List.set_cons_succ]
    refine wpAnyH_take (i := 18) (v := .int .i64 (k : Nat)) rfl (by kernel_rfl) (by kernel_rfl) (by kernel_rfl) (fun _ _ _ h => h) (Or.inl ⟨by rfl, ?_⟩) hH ?_
    · intro w9 hw9
      go_simp
    try simp only [List.getElem_toArray, List.getElem_cons_succ, List.getElem_cons_zero, Act.put, List.setIfInBounds_toArray, List.set_cons_zero, List.set_cons_succ]
    refine wpAnyH_take (i := 19) (v := .pointer (some ⟨b2, o2 + k * 3, none⟩)) rfl (by kernel_rfl) (by kernel_rfl) (by kernel_rfl) (fun _ _ _ h => h) (Or.inl ⟨by rfl, ?_⟩) hH ?_
    · intro w9 hw9
      go_simp
    try simp only [List.getElem_toArray, List.getElem_cons_succ, List.getElem_cons_zero, Act.put, List.setIfInBounds_toArray, List.set_cons_zero, List.set_cons_succ]
    refine wpAnyH_take (i := 20) (v := .pointer (some ⟨b2, o2 + k * 3 + 2, none⟩)) rfl (by kernel_rfl) (by kernel_rfl) (by kernel_rfl) (fun _ _ _ h => h) (Or.inl ⟨by rfl, ?_⟩) hH ?_
    · intro w9 hw9
      go_simp
    try simp only [List.getElem_toArray, List.getElem_cons_succ, List.getElem_cons_zero, Act.put, List.setIfInBounds_toArray, List.set_cons_zero, List.set_cons_succ]
    refine wpAnyH_take (i := 21) (v := .int .i64 qw) rfl (by kernel_rfl) (by kernel_rfl) (by kernel_rfl) (fun _ _ _ h => h) (Or.inl ⟨by rfl, ?_⟩) hH ?_
    · intro w9 hw9
      have z9 := Grow.cell hw9 d2
      go_simp
    try simp only [List.getElem_toArray, List.getElem_cons_succ, List.getElem_cons_zero, Act.put, List.setIfInBounds_toArray, List.set_cons_zero, List.set_cons_succ]
    refine wpAnyH_take (i := 22) (v := .bool false) rfl (by kernel_rfl) (by kernel_rfl) (by kernel_rfl) (fun _ _ _ h => h) (Or.inl ⟨by rfl, ?_⟩) hH ?_
    · intro w9 hw9
      go_simp
    try simp only [List.getElem_toArray, List.getElem_cons_succ, List.getElem_cons_zero, Act.put, List.setIfInBounds_toArray, List.set_cons_zero, List.set_cons_succ]
    refine wpAnyH_take (i := 23) (v := .bool false) rfl (by kernel_rfl) (by kernel_rfl) (by kernel_rfl) (fun _ _ _ h => h) (Or.inl ⟨by rfl, ?_⟩) hH ?_
    · intro w9 hw9
      go_simp
    try simp only [List.getElem_toArray, List.getElem_cons_succ, List.getElem_cons_zero, Act.put, List.setIfInBounds_toArray, List.set_cons_zero, List.set_cons_succ]
    refine wpAnyH_take (i := 24) (v := .bool false) rfl (by kernel_rfl) (by kernel_rfl) (by kernel_rfl) (fun _ _ _ h => h) (Or.inl ⟨by rfl, ?_⟩) hH ?_
    · intro w9 hw9
      go_simp
    try simp only [List.getElem_toArray, List.getElem_cons_succ, List.getElem_cons_zero, Act.put, List.setIfInBounds_toArray, List.set_cons_zero, List.set_cons_succ]
    refine wpAnyH_take (i := 25) (v := .slice (some ⟨b, o, none⟩) ts.length xc) rfl (by kernel_rfl) (by kernel_rfl) (by kernel_rfl) (fun _ _ _ h => h) (Or.inl ⟨by rfl, ?_⟩) hH ?_
    · intro w9 hw9
      go_simp
    try simp only [List.getElem_toArray, List.getElem_cons_succ, List.getElem_cons_zero, Act.put, List.setIfInBounds_toArray, List.set_cons_zero, List.set_cons_succ]
    refine wpAnyH_take (i := 26) (v := .int .i64 (k : Nat)) rfl (by kernel_rfl) (by kernel_rfl) (by kernel_rfl) (fun _ _ _ h => h) (Or.inl ⟨by rfl, ?_⟩) hH ?_
    · intro w9 hw9
      go_simp
    try simp only [List.getElem_toArray, List.getElem_cons_succ, List.getElem_cons_zero, Act.put, List.setIfInBounds_toArray, List.set_cons_zero, List.set_cons_succ]
    refine wpAnyH_take (i := 27) (v := .pointer (some ⟨b, o + k * 3, none⟩)) rfl (by kernel_rfl) (by kernel_rfl) (by kernel_rfl) (fun _ _ _ h => h) (Or.inl ⟨by rfl, ?_⟩) hH ?_
    · intro w9 hw9
      go_simp
    try simp only [List.getElem_toArray, List.getElem_cons_succ, List.getElem_cons_zero, Act.put, List.setIfInBounds_toArray, List.set_cons_zero, List.set_cons_succ]
    refine wpAnyH_take (i := 28) (v := .pointer (some ⟨b, o + k * 3, none⟩)) rfl (by kernel_rfl) (by kernel_rfl) (by kernel_rfl) (fun _ _ _ h => h) (Or.inl ⟨by rfl, ?_⟩) hH ?_
    · intro w9 hw9
      go_simp
    try simp only [List.getElem_toArray, List.getElem_cons_succ, List.getElem_cons_zero, Act.put, List.setIfInBounds_toArray, List.set_cons_zero, List.set_cons_succ]
    refine wpAnyH_take (i := 29) (v := .slice qa qn qc) rfl (by kernel_rfl) (by kernel_rfl) (by kernel_rfl) (fun _ _ _ h => h) (Or.inl ⟨by rfl, ?_⟩) hH ?_
    · intro w9 hw9
      have z9 := Grow.cell hw9 c0
      go_simp
    try simp only [List.getElem_toArray, List.getElem_cons_succ, List.getElem_cons_zero, Act.put, List.setIfInBounds_toArray, List.set_cons_zero, List.set_cons_succ]
    refine wpAnyH_take (i := 30) (v := .slice (some ⟨b2, o2, none⟩) ts.length yc) rfl (by kernel_rfl) (by kernel_rfl) (by kernel_rfl) (fun _ _ _ h => h) (Or.inl ⟨by rfl, ?_⟩) hH ?_
    · intro w9 hw9
      go_simp
    try simp only [List.getElem_toArray, List.getElem_cons_succ, List.getElem_cons_zero, Act.put, List.setIfInBounds_toArray, List.set_cons_zero, List.set_cons_succ]
    refine wpAnyH_take (i := 31) (v := .int .i64 (k : Nat)) rfl (by kernel_rfl) (by kernel_rfl) (by kernel_rfl) (fun _ _ _ h => h) (Or.inl ⟨by rfl, ?_⟩) hH ?_
    · intro w9 hw9
      go_simp
    try simp only [List.getElem_toArray, List.getElem_cons_succ, List.getElem_cons_zero, Act.put, List.setIfInBounds_toArray, List.set_cons_zero, List.set_cons_succ]
    refine wpAnyH_take (i := 32) (v := .pointer (some ⟨b2, o2 + k * 3, none⟩)) rfl (by kernel_rfl) (by kernel_rfl) (by kernel_rfl) (fun _ _ _ h => h) (Or.inl ⟨by rfl, ?_⟩) hH ?_
    · intro w9 hw9
      go_simp
    try simp only [List.getElem_toArray, List.getElem_cons_succ, List.getElem_cons_zero, Act.put, List.setIfInBounds_toArray, List.set_cons_zero, List.set_cons_succ]
    refine wpAnyH_take (i := 33) (v := .pointer (some ⟨b2, o2 + k * 3, none⟩)) rfl (by kernel_rfl) (by kernel_rfl) (by kernel_rfl) (fun _ _ _ h => h) (Or.inl ⟨by rfl, ?_⟩) hH ?_
    · intro w9 hw9
      go_simp
    try simp only [List.getElem_toArray, List.getElem_cons_succ, List.getElem_cons_zero, Act.put, List.setIfInBounds_toArray, List.set_cons_zero, List.set_cons_succ]
    refine wpAnyH_take (i := 34) (v := .slice ra rn rc) rfl (by kernel_rfl) (by kernel_rfl) (by kernel_rfl) (fun _ _ _ h => h) (Or.inl ⟨by rfl, ?_⟩) hH ?_
    · intro w9 hw9
      have z9 := Grow.cell hw9 d0
      go_simp
    try simp only [List.getElem_toArray, List.getElem_cons_succ, List.getElem_cons_zero, Act.put, List.setIfInBounds_toArray, List.set_cons_zero, List.set_cons_succ]
    refine wpAnyH_ready (rs := [35]) (by kernel_rfl) (by simp) ?_
    refine AllReadyH.cons rfl (fun K hK => ?_) AllReadyH.nil
    go_simp
    refine rsameI4_any qx qx _ _ _ (HI.out.grow hH) (HJ.out.grow hH) _ ?_
    intro w3 hg3
    rw [decide_eq_true (rfl : qx = qx)]
    go_wp2_with fail
    refine hK.out _ _ (hH.trans hg3) (fun hH2 => ?_)
    clear hK K hH
    have hH := hH2
    clear hH2
    try simp only [List.getElem_toArray, List.getElem_cons_succ, List.getElem_cons_zero, Act.put, List.setIfInBounds_toArray, List.set_cons_zero, List.set_cons_succ]
    clear hg3
    refine wpAnyH_take (i := 36) (v := .bool false) rfl (by kernel_rfl) (by kernel_rfl) (by kernel_rfl) (fun _ _ _ h => h) (Or.inl ⟨by rfl, ?_⟩) hH ?_
    · intro w9 hw9
      go_simp
    try simp only [List.getElem_toArray, List.getElem_cons_succ, List.getElem_cons_zero, Act.put, List.setIfInBounds_toArray, List.set_cons_zero, List.set_cons_succ]
    refine wpAnyH_take (i := 37) (v := .bool false) rfl (by kernel_rfl) (by kernel_rfl) (by kernel_rfl) (fun _ _ _ h => h) (Or.inl ⟨by rfl, ?_⟩) hH ?_
    · intro w9 hw9
      go_simp
    try simp only [List.getElem_toArray, List.getElem_cons_succ, List.getElem_cons_zero, Act.put, List.setIfInBounds_toArray, List.set_cons_zero, List.set_cons_succ]
    refine wpAnyH_done (by kernel_rfl) ?_ _
    have HG3 := Lib.hid (HGR.out.trans hH)
    clear hH c0 c1 c2 d0 d1 d2
    go_wp2_with fail
    go_roundw
    case rel => exact ⟨k + 1, by omega, by go_num, HG3.out⟩
    case measure => simp [intOf]; omega
  · obtain rfl : k = ts.length := by omega
    have hltz : ¬ (ts.length : Int) < (ts.length : Int) := by omega
    have HF := Lib.hid (HR.out wr HGR.out)
    go_wp2_with fail
    exact HF.out
end Go.Proofs.YtgjppekjkofdiaaGreatDoor

namespace Go.Proofs.YtgjppekjkofdiaaGreatDoor
open Go.RowKit

theorem rep_empty {p : List Ln} (h : valP p ≠ 0) : repB p ⟨#[]⟩ = (none, (0 : Int), valP p) := by unfold repB; rw [if_pos h]
set_option maxRecDepth 100000 in
set_option maxHeartbeats 16000000 in
theorem topBench_any (p : List Ln) (l : List ByteArray) (n : Int) (w : World) (v0 v1 : Value) (hg : Glob w) (hp : LinesAt w v0 p) (hl : TextsAt w v1 l) (R : Ending → World → Prop) (hR : ∀ w', Grow w w' → R (.returned (.bool true)) w') :
    Calls Tryz.prog 8 #[v0, v1, .int .i64 n] w R := by
  have HR := Lib.hid hR
  have HG := Lib.hid hg
  have HP := Lib.hid hp
  have HL := Lib.hid hl
  have hgs := hg.size
  obtain ⟨va, vc, rfl, a1, a2, jk⟩ := hl
  clear hR hg hp jk
  go_enter Tryz.func8, Tryz.ntmps8
  go_wp2_with fail
  refine Sum_any 0 ⟨#[97]⟩ _ (by decide) _ ?_
  intro w0 hg0
  rw [show Bk.sumS 0 (⟨#[97]⟩ : ByteArray).data.toList = 98 from by kernel_rfl]
  have HG0 := Lib.hid hg0
  clear hg0
  go_wp2_with fail
  refine long49_any p _ _ (HP.out.grow HG0.out) _ ?_
  cases hlg : decide (100 < p.length) with
  | true =>
    have HF := Lib.hid (HR.out w0 HG0.out)
    go_wp2_with fail
    exact HF.out
  | false =>
  have hpl : p.length ≤ 100 := by have := of_decide_eq_false hlg; omega
  clear hlg
  go_wp2_with fail
  refine Long9_any l _ _ (HL.out.grow HG0.out) _ ?_
  intro w1 hg1
  have HG1 := Lib.hid (HG0.out.trans hg1)
  clear hg1 HG0
  cases hlg : lngT l with
  | true =>
    have HF := Lib.hid (HR.out w1 HG1.out)
    go_wp2_with fail
    exact HF.out
  | false =>
  obtain ⟨hsz, hlen⟩ := lngT_no hlg
  have HSZ := Lib.hid (show ∀ t ∈ l, t.size < 4294967281 from fun t ht => by have := hsz t ht; omega)
  clear hlg hsz
  go_wp2_with fail
  refine New_any p _ _ (HP.out.grow HG1.out) (by omega) _ ?_ ?_
  · intro h0 w2 hg2
    have HG2 := Lib.hid (HG1.out.trans hg2)
    have HRB := Lib.hid (rep_empty h0)
    have hz : (valP p != 0) = true := by simpa using h0
    obtain ⟨e, he⟩ : ∃ e, valP p = e := ⟨_, rfl⟩
    rw [he] at HRB hz h0 ⊢
    clear he hg2
    go_wp2_with fail
    refine Replay_any p _ ⟨#[]⟩ _ (HG.out.grow HG2.out) (HP.out.grow HG2.out) (by omega) (by decide) _ ?_ ?_
    rotate_left
    · intro s9 n9 e9 he9; rw [HRB.out] at he9; cases he9
    intro n9 e9 he9 w3 hg3
    obtain ⟨rfl, rfl⟩ : (0 : Int) = n9 ∧ e = e9 := by
      rw [HRB.out] at he9
      injection he9 with h1 h2
      injection h2 with h2 h3
      exact ⟨h2, h3⟩
    have HF := Lib.hid (HR.out w3 (HG2.out.trans hg3))
    clear he9 hg3
    go_wp2_with fail
    exact HF.out
  intro h0 w2 B hg2 hB hb
  have HG2 := Lib.hid (HG1.out.trans hg2)
  have HB2 := Lib.hid hb
  have H0 := Lib.hid h0
  have hwB : w.heap.size ≤ B := Nat.le_trans HG1.out.sz hB
  have HT2 := Lib.hid (HL.out.old HG2.out hwB)
  have hB4 : 4 < B := by omega
  have HN0 := Lib.hid (OkB.new h0)
  clear hg2 hb hB h0
  go_wp2_with fail
  go_loopw [13] (fun s8 wr => ∃ k : Nat, k ≤ l.length ∧ k ≤ 24 ∧ s8 = .int .i64 k ∧ Chg B w2 wr ∧ BnAt (fun k => k == B) B wr (dosB (newB p) (l.take k))) (fun s8 _ => l.length - (intOf s8).toNat)
  case atStart => exact ⟨0, Nat.zero_le _, Nat.zero_le _, rfl, chg_refl B w2, HB2.out⟩
  case round =>
  obtain ⟨k, hk, hk24, rfl, hc, hbn⟩ := hrel
  have HC := Lib.hid hc
  have HBN := Lib.hid hbn
  have HGW := Lib.hid (chg_grow HG2.out hc hwB)
  clear hc hbn
  by_cases hin : k < l.length ∧ k < 24
  · obtain ⟨hlt, h24⟩ := hin
    have hltz : decide ((k : Int) < (l.length : Int)) = true := by rw [decide_eq_true_eq]; omega
    have h24z : decide ((k : Int) < 24) = true := by rw [decide_eq_true_eq]; omega
    have hkz : (k : Int) < (l.length : Int) := by omega
    obtain ⟨u, hu⟩ : ∃ u, l[k]? = some u := ⟨_, List.getElem?_eq_getElem hlt⟩
    have HU := Lib.hid hu
    have hus := HSZ.out u (List.mem_of_getElem? hu)
    have HKO := Lib.hid (HN0.out.dos (l.take k))
    have HKH := Lib.hid (show (dosB (newB p) (l.take (k + 1))).progs[0]? = some p by rw [head_dos HN0.out]; rfl)
    have HSN := Lib.hid (dos_snoc (s := newB p) hu)
    obtain ⟨S, hS⟩ : ∃ z, dosB (newB p) (l.take k) = z := ⟨_, rfl⟩
    rw [hS] at HBN HKO HSN
    clear hu hS
    go_wp2_with fail
    refine Book_any (fun k => k == B) B S _ (HG.out.grow HGW.out) HBN.out HKO.out _ ?_
    intro w3 hg3
    have HG3 := Lib.hid (HGW.out.trans hg3)
    have HB3 := Lib.hid (HBN.out.grow hg3)
    have HC3 := Lib.hid (HC.out.trans (Chg.of_grow hg3))
    obtain ⟨b, o, rfl, hbl, y0⟩ := texts_at (show TextsAt w3 _ l from (HT2.out.grow HC3.out).unhide) HU.out
    obtain ⟨T, hT⟩ : ∃ z, tb (bkS S.orders) = z := ⟨_, rfl⟩
    have HTT := Lib.hid hT
    rw [hT]
    clear hg3 hT
    go_wp2_with fail
    refine bDo_any (fun k => k == B) B u hus S _ (HG.out.grow HG3.out) HB3.out HKO.out hB4 _ ?_
    intro w5 hc5 hb5
    have HC5 := Lib.hid (HC3.out.trans hc5)
    have HG5 := Lib.hid (chg_grow HG2.out HC5.out hwB)
    have HO5 := Lib.hid (show OkB (dosB (newB p) (l.take (k + 1))) from HN0.out.dos _)
    have HB5 := Lib.hid (show BnAt (fun k => k == B) B w5 (dosB (newB p) (l.take (k + 1))) by rw [HSN.out]; exact hb5)
    by_cases he : (doB S u).1 = 0
    · rw [he]
      clear hb5 hc5 he y0
      go_wp2_with fail
      refine Stands_any (fun k => k == B) B _ p _ _ HB5.out HO5.out (HP.out.grow HG5.out) HKH.out _ ?_
      intro w6 hg6
      have HC6 := Lib.hid (HC5.out.trans (Chg.of_grow hg6))
      have HB6 := Lib.hid (HB5.out.grow hg6)
      clear hg6
      go_wp2_with fail
      go_roundw
      case rel => exact ⟨k + 1, by omega, by omega, by go_num, HC6.out, HB6.out⟩
      case measure => simp [intOf]; omega
    · have hst := doB_err he
      rw [hst] at hb5
      have HBS := Lib.hid hb5
      obtain ⟨e, he2⟩ : ∃ e, (doB S u).1 = e := ⟨_, rfl⟩
      rw [he2] at he ⊢
      have t1 : (e != 0) = true := bne_iff_ne.2 he
      clear hb5 hc5 he he2 hst y0
      go_wp2_with fail
      refine Book_any (fun k => k == B) B S _ (HG.out.grow HG5.out) HBS.out HKO.out _ ?_
      intro w6 hg6
      rw [HTT.out]
      have HC6 := Lib.hid (HC5.out.trans (Chg.of_grow hg6))
      have HB6 := Lib.hid (HB5.out.grow hg6)
      have HG6 := Lib.hid (HG5.out.trans hg6)
      clear hg6
      go_wp2_with fail
      refine Stands_any (fun k => k == B) B _ p _ _ HB6.out HO5.out (HP.out.grow HG6.out) HKH.out _ ?_
      intro w7 hg7
      have HC7 := Lib.hid (HC6.out.trans (Chg.of_grow hg7))
      have HB7 := Lib.hid (HB6.out.grow hg7)
      clear hg7
      go_wp2_with fail
      go_roundw
      case rel => exact ⟨k + 1, by omega, by omega, by go_num, HC7.out, HB7.out⟩
      case measure => simp [intOf]; omega
  have HOK := Lib.hid (HN0.out.dos (l.take k))
  have HREP := Lib.hid ((RepB.new p).dos (l.take k))
  obtain ⟨S, hS⟩ : ∃ z, dosB (newB p) (l.take k) = z := ⟨_, rfl⟩
  rw [hS] at HOK HREP HBN
  have ho80 := HOK.out.ord
  have hbb := bk_bound HOK.out
  have hrd := read_all HOK.out
  obtain ⟨A, hA⟩ : ∃ A, bkS S.orders = A := ⟨_, rfl⟩
  have HAS := Lib.hid hA
  have htbs := tb_size A
  rw [hA] at hrd hbb
  have HRD := Lib.hid hrd
  have htn := tb_nil
  obtain ⟨w6, hw6⟩ : ∃ z : World, z = wr := ⟨_, rfl⟩
  rw [← hw6] at HC HBN HGW ⊢
  clear hw6 hS hrd hA
  have hz2 : (k < l.length ∧ ¬ k < 24 ∧ decide ((k : Int) < (l.length : Int)) = true ∧ decide ((k : Int) < 24) = false) ∨ (¬ k < l.length ∧ decide ((k : Int) < (l.length : Int)) = false) := by
    by_cases hlt : k < l.length
    · have h24 : ¬ k < 24 := fun h => hin ⟨hlt, h⟩
      exact .inl ⟨hlt, h24, by rw [decide_eq_true_eq]; omega, by rw [decide_eq_false_iff_not]; omega⟩
    · exact .inr ⟨hlt, by rw [decide_eq_false_iff_not]; omega⟩
  rcases hz2 with ⟨hlt, h24, hltz, h24z⟩ | ⟨hlt, hltz⟩
  all_goals
    go_wp2_with fail
    refine Book_any (fun k => k == B) B S _ (HG.out.grow HGW.out) HBN.out HOK.out _ ?_
    intro w7 hg7
    rw [HAS.out]
    have HG7 := Lib.hid (HGW.out.trans hg7)
    have HB7 := Lib.hid (HBN.out.grow hg7)
    clear hg7
    go_wp2_with fail
    refine Read_any (tb A) (by omega) _ (HG.out.grow HG7.out) _ ?_
    intro w8 v8 hg8 ho8
    rw [HRD.out.1] at ho8
    rw [HRD.out.2]
    have HT8 := Lib.hid (slc_of_owns encTx_len ho8)
    have HG8 := Lib.hid (HG7.out.trans hg8)
    have HB8 := Lib.hid (HB7.out.grow hg8)
    obtain ⟨ta, tc, rfl, t1, t2, jk⟩ := slc_of_owns encTx_len ho8
    obtain ⟨m, hm, hml⟩ := keep_bd n A.length (by omega)
    have hmz : ¬ (m : Int) < 0 := by omega
    have hmA : m ≤ (tb A).size := by omega
    have hex := tb_extract A 0 m
    rw [List.drop_zero] at hex
    have HEX := Lib.hid hex
    clear hg8 ho8 jk hex HB7
    go_wp2_with fail
    rw [HEX.out]
    obtain ⟨j, r, hj, hjr, hrm, hpre, hjl⟩ := bk_cut (l := S.orders) HOK.out.okL ho80 (m := m) (by rw [HAS.out]; exact hml)
    rw [HAS.out] at hjr hpre
    refine Read_any (tb (A.take m)) (by rw [tb_size, List.length_take]; omega) _ (HG.out.grow HG8.out) _ ?_
    intro w9 v9 hg9 ho9
    rw [tb_data, hjr] at ho9 ⊢
    dsimp only at ho9 ⊢
    rw [map_tb_dl] at ho9
    have HPRE := Lib.hid hpre
    have hjn : (S.orders.take j).length = j := by rw [List.length_take]; omega
    have HT9 := Lib.hid (slc_of_owns encTx_len ho9)
    have HG9 := Lib.hid (HG8.out.trans hg9)
    have HB9 := Lib.hid (HB8.out.grow hg9)
    have HA9 := Lib.hid (HT8.out.grow hg9)
    have HA93 := Lib.hid ((HT8.out.grow hg9).take3 hj)
    obtain ⟨ka, kc, rfl, k1, k2, jk⟩ := slc_of_owns encTx_len ho9
    rw [hjn] at k1 HT9 ⊢
    have hrs := tb_size r
    have hjgz : decide ((j : Int) > (S.orders.length : Int)) = false := by rw [decide_eq_false_iff_not]; omega
    have hrgz : decide ((r.length : Int) > (m : Int)) = false := by rw [decide_eq_false_iff_not]; omega
    have hjz : (j : Int) ≤ (S.orders.length : Int) := by omega
    have hjc : j ≤ tc := by omega
    have hva : (∃ ad, ta = some ad) ∨ (ta = none ∧ S.orders = [] ∧ tc = 0) := by
      obtain ⟨a', c', e, _, _, h4⟩ := HT8.out
      cases e
      rcases h4 with ⟨h4, h5⟩ | ⟨b, o, e, _, _⟩
      · cases ta with
        | none => exact .inr ⟨rfl, h4, h5 rfl⟩
        | some ad => exact .inl ⟨ad, rfl⟩
      · exact .inl ⟨_, e⟩
    have hwr : IntKind.i64.wrap ((m : Int) - (r.length : Int)) = ((m - r.length : Nat) : Int) := by
      rw [show (m : Int) - (r.length : Int) = ((m - r.length : Nat) : Int) by omega]
      exact IntWalk.i64_in _ (by omega)
    have hmr : m - r.length ≤ (tb A).size := by omega
    have hex := tb_extract A 0 (m - r.length)
    rw [List.drop_zero, HPRE.out] at hex
    have HEX2 := Lib.hid hex
    have HVA := Lib.hid hva
    have HPK := Lib.hid (show (tb (bkS (S.orders.take j))).size ≤ 1000000000 by rw [tb_size, ← HPRE.out, List.length_take]; omega)
    have HMG := Lib.hid (by have h := (mrg_pre HOK.out.okL ho80 hj).1; rw [HAS.out] at h; exact h)
    have HRT := Lib.hid (HREP.out.take HOK.out H0.out hj)
    rw [hm]
    clear hg9 ho9 jk hjr hpre hjl hm hex hva HB8 HT8
    rcases HVA.out with ⟨ad, rfl⟩ | ⟨rfl, ho0, rfl⟩
    · go_wp2_with fail
      refine rSameTexts_any (S.orders.take j) (S.orders.take j) _ _ _ HT9.out HA93.out _ ?_
      intro w10 hg10
      rw [decide_eq_true rfl]
      have HG10 := Lib.hid (HG9.out.trans hg10)
      have HB10 := Lib.hid (HB9.out.grow hg10)
      have HA10 := Lib.hid (HA9.out.grow hg10)
      clear hg10 HT9 HA93
      go_wp2_with fail
      rw [HEX2.out]
      refine Replay_any p _ (tb (bkS (S.orders.take j))) _ (HG.out.grow HG10.out) (HP.out.grow HG10.out) (by omega) HPK.out _ ?_ ?_
      · intro n9 e9 he9; rw [HRT.out] at he9; cases he9
      intro s9 n9 e9 he9 w11 B2 hg11 hB2 hb2 ok9
      obtain ⟨hs9, rfl, rfl⟩ : dosB (newB p) (S.orders.take j) = s9 ∧ ((j : Nat) : Int) = n9 ∧ (0 : Int) = e9 := by
        rw [HRT.out] at he9
        injection he9 with h1 h2
        injection h1 with h1
        injection h2 with h2 h3
        exact ⟨h1, h2, h3⟩
      rw [← hs9] at hb2 ok9
      have HG11 := Lib.hid (HG10.out.trans hg11)
      have HA11 := Lib.hid (HA10.out.old hg11 hB2)
      have HB11 := Lib.hid (HB10.out.more hg11 hB2 hb2)
      have HPT := Lib.hid hb2
      have hbB := HB10.out.hid.bd B (by simp)
      have hB2B : B2 ≠ B := by omega
      have hwB2 : w.heap.size ≤ B2 := Nat.le_trans HG10.out.sz hB2
      have hB24 : 4 < B2 := by omega
      clear he9 hs9 hb2 ok9 hbB hg11 HB10 HA10 HB9 HA9
      go_wp2_with fail
      go_loopw [21] (fun s21 wr => ∃ k : Nat, j ≤ k ∧ k ≤ S.orders.length ∧ s21 = .int .i64 k ∧ Chg B2 w11 wr ∧ BnAt (fun k => k == B2) B2 wr (dosB (newB p) (S.orders.take k))) (fun s21 _ => S.orders.length - (intOf s21).toNat)
      case atStart => exact ⟨j, Nat.le_refl _, hj, rfl, chg_refl B2 w11, HPT.out⟩
      case round =>
      obtain ⟨k2, hkm, hk, rfl, hc, hbn⟩ := hrel
      have HC := Lib.hid hc
      have HBE := Lib.hid hbn
      have HGW := Lib.hid (chg_grow HG11.out hc hwB2)
      clear hc hbn
      by_cases hlt : k2 < S.orders.length
      · have hltz : (k2 : Int) < (S.orders.length : Int) := by omega
        obtain ⟨t, ht⟩ : ∃ t, S.orders[k2]? = some t := ⟨_, List.getElem?_eq_getElem hlt⟩
        obtain ⟨b, o, hab, hbl, y0⟩ := texts_at (show TextsAt wr _ S.orders from (HA11.out.grow HC.out).unhide) ht
        cases hab
        have hus : t.size < 4294967281 := by have := HOK.out.tsz t (List.mem_of_getElem? ht); omega
        have hde := HREP.out.2 k2 t ht
        have HU := Lib.hid ht
        have HDE := Lib.hid hde
        clear ht hde
        go_wp2_with fail
        refine bDo_any _ B2 t hus (dosB (newB p) (S.orders.take k2)) _ (HG.out.grow HGW.out) HBE.out (HN0.out.dos _) hB24 _ ?_
        intro w13 hc13 hb13
        rw [HDE.out]
        have HC13 := Lib.hid (HC.out.trans hc13)
        have HB13 := Lib.hid (show BnAt (fun k => k == B2) B2 w13 (dosB (newB p) (S.orders.take (k2 + 1))) by rw [dos_snoc HU.out]; exact hb13)
        clear hc13 hb13 y0
        go_wp2_with fail
        go_roundw
        case rel => exact ⟨k2 + 1, by omega, by omega, by go_num, HC13.out, HB13.out⟩
        case measure => simp [intOf]; omega
      obtain rfl : k2 = S.orders.length := by omega
      have hltz : ¬ (S.orders.length : Int) < (S.orders.length : Int) := by omega
      obtain ⟨w12, hw12⟩ : ∃ z : World, z = wr := ⟨_, rfl⟩
      rw [← hw12] at HC HBE HGW ⊢
      have HB12 := Lib.hid (HB11.out.other HC.out hB2B (by simp [hidN]))
      have hbe := HBE.out
      rw [List.take_length, HREP.out.1] at hbe
      have HX12 := Lib.hid hbe
      clear hbe HBE hw12 hlt hk HC HB11 HA11 HPT
      go_wp2_with fail
      rw [HEX2.out]
      refine Merge_any (tb (bkS (S.orders.take j))) (tb A) HPK.out (by omega) _ (HG.out.grow HGW.out) _ ?_
      intro w13 hg13
      rw [HMG.out]
      dsimp only
      have HG13 := Lib.hid (HGW.out.trans hg13)
      have HB13 := Lib.hid (HB12.out.grow hg13)
      have HX13 := Lib.hid (HX12.out.grow hg13)
      obtain ⟨fx, hfx⟩ : ∃ z, S.fixes = z := ⟨_, rfl⟩
      obtain ⟨cx, hcx⟩ : ∃ z, S.checks = z := ⟨_, rfl⟩
      have HFX := Lib.hid hfx
      have HCX := Lib.hid hcx
      clear hg13 hfx hcx HB12 HX12 HGW
      go_wp2_with fail
      refine Counts_any _ B2 S _ HX13.out _ ?_
      intro w14 hg14
      rw [HFX.out, HCX.out]
      have HG14 := Lib.hid (HG13.out.trans hg14)
      have HB14 := Lib.hid (HB13.out.grow hg14)
      have HX14 := Lib.hid (HX13.out.grow hg14)
      clear hg14
      go_wp2_with fail
      refine Counts_any _ B S _ HB14.out _ ?_
      intro w15 hg15
      rw [HFX.out, HCX.out]
      have HG15 := Lib.hid (HG14.out.trans hg15)
      have HB15 := Lib.hid (HB14.out.grow hg15)
      have HX15 := Lib.hid (HX14.out.grow hg15)
      clear hg15 HB13 HX13 HB14 HX14
      go_wp2_with fail
      refine Book_any _ B2 S _ (HG.out.grow HG15.out) HX15.out HOK.out _ ?_
      intro w16 hg16
      rw [HAS.out]
      have HG16 := Lib.hid (HG15.out.trans hg16)
      have HB16 := Lib.hid (HB15.out.grow hg16)
      have HX16 := Lib.hid (HX15.out.grow hg16)
      clear hg16
      go_wp2_with fail
      refine Program_any _ B2 S _ HX16.out HOK.out _ ?_
      intro w17 p17 base17 hg17 hb17 ho17
      have HV17 := Lib.hid (show LinesAt w17 p17 S.prog from slc_of_owns encL_len ho17)
      have HG17 := Lib.hid (HG16.out.trans hg17)
      have HB17 := Lib.hid (HB16.out.grow hg17)
      have HX17 := Lib.hid (HX16.out.grow hg17)
      clear hg17 hb17 ho17
      go_wp2_with fail
      refine Program_any _ B S _ HB17.out HOK.out _ ?_
      intro w18 p18 base18 hg18 hb18 ho18
      have HV18 := Lib.hid (show LinesAt w18 p18 S.prog from slc_of_owns encL_len ho18)
      have HG18 := Lib.hid (HG17.out.trans hg18)
      have HB18 := Lib.hid (HB17.out.grow hg18)
      have HX18 := Lib.hid (HX17.out.grow hg18)
      have HVG := Lib.hid hg18
      clear hg18 hb18 ho18
      go_wp2_with fail
      refine rsame4_any S.prog S.prog _ _ _ (HV17.out.grow HVG.out) HV18.out _ ?_
      intro w19 hg19
      rw [decide_eq_true rfl]
      have HG19 := Lib.hid (HG18.out.trans hg19)
      have HB19 := Lib.hid (HB18.out.grow hg19)
      have HX19 := Lib.hid (HX18.out.grow hg19)
      clear hg19 HVG HV17 HV18
      go_wp2_with fail
      refine Tests_any _ B2 S _ HX19.out HOK.out _ ?_
      intro w20 p20 base20 T20 hg20 hb20 ho20 hx20
      have HV20 := Lib.hid ho20.at_
      have HE20 := Lib.hid hx20
      have HG20 := Lib.hid (HG19.out.trans hg20)
      have HB20 := Lib.hid (HB19.out.grow hg20)
      have HX20 := Lib.hid (HX19.out.grow hg20)
      clear hg20 hb20 ho20 hx20
      go_wp2_with fail
      refine Tests_any _ B S _ HB20.out HOK.out _ ?_
      intro w21 p21 base21 T21 hg21 hb21 ho21 hx21
      have HV21 := Lib.hid ho21.at_
      have HE21 := Lib.hid hx21
      have HG21 := Lib.hid (HG20.out.trans hg21)
      have HB21 := Lib.hid (HB20.out.grow hg21)
      have HX21 := Lib.hid (HX20.out.grow hg21)
      have HVG := Lib.hid hg21
      clear hg21 hb21 ho21 hx21
      go_wp2_with fail
      refine rSameTests_any S.tests T20 T21 _ _ _ (HV20.out.grow HVG.out) HV21.out HE20.out HE21.out _ ?_
      intro w22 hg22
      have HG22 := Lib.hid (HG21.out.trans hg22)
      have HB22 := Lib.hid (HB21.out.grow hg22)
      have HX22 := Lib.hid (HX21.out.grow hg22)
      clear hg22 HVG HV20 HV21
      go_wp2_with fail
      refine Locked_any _ B2 S _ HX22.out HOK.out _ ?_
      intro w23 p23 base23 hg23 hb23 ho23
      have HV23 := Lib.hid (show IntsAt w23 p23 S.lk from slc_of_owns encI_len ho23)
      have HG23 := Lib.hid (HG22.out.trans hg23)
      have HB23 := Lib.hid (HB22.out.grow hg23)
      have HX23 := Lib.hid (HX22.out.grow hg23)
      clear hg23 hb23 ho23
      go_wp2_with fail
      refine Locked_any _ B S _ HB23.out HOK.out _ ?_
      intro w24 p24 base24 hg24 hb24 ho24
      have HV24 := Lib.hid (show IntsAt w24 p24 S.lk from slc_of_owns encI_len ho24)
      have HG24 := Lib.hid (HG23.out.trans hg24)
      have HB24 := Lib.hid (HB23.out.grow hg24)
      have HX24 := Lib.hid (HX23.out.grow hg24)
      have HVG := Lib.hid hg24
      clear hg24 hb24 ho24
      go_wp2_with fail
      refine rsameI4_any S.lk S.lk _ _ _ (HV23.out.grow HVG.out) HV24.out _ ?_
      intro w25 hg25
      rw [decide_eq_true rfl]
      have HG25 := Lib.hid (HG24.out.trans hg25)
      have HB25 := Lib.hid (HB24.out.grow hg25)
      have HX25 := Lib.hid (HX24.out.grow hg25)
      clear hg25 HVG HV23 HV24
      go_wp2_with fail
      refine History_any _ B2 S _ HX25.out HOK.out _ ?_
      intro w26 p26 base26 T26 hg26 hb26 hn26 ho26 hx26
      have HV26 := Lib.hid ho26
      have HE26 := Lib.hid hx26
      have HG26 := Lib.hid (HG25.out.trans hg26)
      have HB26 := Lib.hid (HB25.out.grow hg26)
      have HX26 := Lib.hid (HX25.out.grow hg26)
      clear hg26 hb26 ho26 hx26 hn26
      go_wp2_with fail
      refine History_any _ B S _ HB26.out HOK.out _ ?_
      intro w27 p27 base27 T27 hg27 hb27 hn27 ho27 hx27
      have HV27 := Lib.hid ho27
      have HE27 := Lib.hid hx27
      have HG27 := Lib.hid (HG26.out.trans hg27)
      have HB27 := Lib.hid (HB26.out.grow hg27)
      have HX27 := Lib.hid (HX26.out.grow hg27)
      have HVG := Lib.hid hg27
      clear hg27 hb27 ho27 hx27 hn27
      go_wp2_with fail
      refine same7_any S.hist T26 T27 _ _ _ (HV26.out.grow HVG.out) HV27.out HE26.out HE27.out _ ?_
      intro w28 hg28
      have HG28 := Lib.hid (HG27.out.trans hg28)
      have HB28 := Lib.hid (HB27.out.grow hg28)
      have HX28 := Lib.hid (HX27.out.grow hg28)
      clear hg28 HVG HV26 HV27
      go_wp2_with fail
      refine Failing9_any _ B2 S _ HX28.out HOK.out _ ?_
      intro w29 p29 base29 hg29 hb29 ho29
      have HV29 := Lib.hid (show IntsAt w29 p29 (failB S.prog S.tests) from ho29.slc encI_len)
      have HG29 := Lib.hid (HG28.out.trans hg29)
      have HB29 := Lib.hid (HB28.out.grow hg29)
      have HX29 := Lib.hid (HX28.out.grow hg29)
      clear hg29 hb29 ho29
      go_wp2_with fail
      refine Failing9_any _ B S _ HB29.out HOK.out _ ?_
      intro w30 p30 base30 hg30 hb30 ho30
      have HV30 := Lib.hid (show IntsAt w30 p30 (failB S.prog S.tests) from ho30.slc encI_len)
      have HG30 := Lib.hid (HG29.out.trans hg30)
      have HB30 := Lib.hid (HB29.out.grow hg30)
      have HX30 := Lib.hid (HX29.out.grow hg30)
      have HVG := Lib.hid hg30
      clear hg30 hb30 ho30
      go_wp2_with fail
      refine rsameI4_any (failB S.prog S.tests) (failB S.prog S.tests) _ _ _ (HV29.out.grow HVG.out) HV30.out _ ?_
      intro w31 hg31
      rw [decide_eq_true rfl]
      have HG31 := Lib.hid (HG30.out.trans hg31)
      have HB31 := Lib.hid (HB30.out.grow hg31)
      have HX31 := Lib.hid (HX30.out.grow hg31)
      clear hg31 HVG HV29 HV30
      go_wp2_with fail
      refine Audit_any _ B S p _ (HG.out.grow HG31.out) HB31.out HOK.out HREP.out H0.out _ ?_
      intro w32 hg32
      have HF := Lib.hid (HR.out w32 (HG31.out.trans hg32))
      clear hg32
      go_wp2_with fail
      exact HF.out
    · obtain rfl : j = 0 := by rw [ho0] at hj; simpa using hj
      clear ho0
      go_wp2_with fail
      refine rSameTexts_any (S.orders.take 0) (S.orders.take 0) _ _ _ HT9.out HA93.out _ ?_
      intro w10 hg10
      rw [decide_eq_true rfl]
      have HG10 := Lib.hid (HG9.out.trans hg10)
      have HB10 := Lib.hid (HB9.out.grow hg10)
      have HA10 := Lib.hid (HA9.out.grow hg10)
      clear hg10 HT9 HA93
      go_wp2_with fail
      rw [HEX2.out]
      refine Replay_any p _ (tb (bkS (S.orders.take 0))) _ (HG.out.grow HG10.out) (HP.out.grow HG10.out) (by omega) HPK.out _ ?_ ?_
      · intro n9 e9 he9; rw [HRT.out] at he9; cases he9
      intro s9 n9 e9 he9 w11 B2 hg11 hB2 hb2 ok9
      obtain ⟨hs9, rfl, rfl⟩ : dosB (newB p) (S.orders.take 0) = s9 ∧ ((0 : Nat) : Int) = n9 ∧ (0 : Int) = e9 := by
        rw [HRT.out] at he9
        injection he9 with h1 h2
        injection h1 with h1
        injection h2 with h2 h3
        exact ⟨h1, h2, h3⟩
      rw [← hs9] at hb2 ok9
      have HG11 := Lib.hid (HG10.out.trans hg11)
      have HA11 := Lib.hid (HA10.out.old hg11 hB2)
      have HB11 := Lib.hid (HB10.out.more hg11 hB2 hb2)
      have HPT := Lib.hid hb2
      have hbB := HB10.out.hid.bd B (by simp)
      have hB2B : B2 ≠ B := by omega
      have hwB2 : w.heap.size ≤ B2 := Nat.le_trans HG10.out.sz hB2
      have hB24 : 4 < B2 := by omega
      clear he9 hs9 hb2 ok9 hbB hg11 HB10 HA10 HB9 HA9
      go_wp2_with fail
      go_loopw [21] (fun s21 wr => ∃ k : Nat, 0 ≤ k ∧ k ≤ S.orders.length ∧ s21 = .int .i64 k ∧ Chg B2 w11 wr ∧ BnAt (fun k => k == B2) B2 wr (dosB (newB p) (S.orders.take k))) (fun s21 _ => S.orders.length - (intOf s21).toNat)
      case atStart => exact ⟨0, Nat.le_refl _, hj, rfl, chg_refl B2 w11, HPT.out⟩
      case round =>
      obtain ⟨k2, hkm, hk, rfl, hc, hbn⟩ := hrel
      have HC := Lib.hid hc
      have HBE := Lib.hid hbn
      have HGW := Lib.hid (chg_grow HG11.out hc hwB2)
      clear hc hbn
      by_cases hlt : k2 < S.orders.length
      · exfalso; omega
      obtain rfl : k2 = S.orders.length := by omega
      have hltz : ¬ (S.orders.length : Int) < (S.orders.length : Int) := by omega
      obtain ⟨w12, hw12⟩ : ∃ z : World, z = wr := ⟨_, rfl⟩
      rw [← hw12] at HC HBE HGW ⊢
      have HB12 := Lib.hid (HB11.out.other HC.out hB2B (by simp [hidN]))
      have hbe := HBE.out
      rw [List.take_length, HREP.out.1] at hbe
      have HX12 := Lib.hid hbe
      clear hbe HBE hw12 hlt hk HC HB11 HA11 HPT
      go_wp2_with fail
      rw [HEX2.out]
      refine Merge_any (tb (bkS (S.orders.take 0))) (tb A) HPK.out (by omega) _ (HG.out.grow HGW.out) _ ?_
      intro w13 hg13
      rw [HMG.out]
      dsimp only
      have HG13 := Lib.hid (HGW.out.trans hg13)
      have HB13 := Lib.hid (HB12.out.grow hg13)
      have HX13 := Lib.hid (HX12.out.grow hg13)
      obtain ⟨fx, hfx⟩ : ∃ z, S.fixes = z := ⟨_, rfl⟩
      obtain ⟨cx, hcx⟩ : ∃ z, S.checks = z := ⟨_, rfl⟩
      have HFX := Lib.hid hfx
      have HCX := Lib.hid hcx
      clear hg13 hfx hcx HB12 HX12 HGW
      go_wp2_with fail
      refine Counts_any _ B2 S _ HX13.out _ ?_
      intro w14 hg14
      rw [HFX.out, HCX.out]
      have HG14 := Lib.hid (HG13.out.trans hg14)
      have HB14 := Lib.hid (HB13.out.grow hg14)
      have HX14 := Lib.hid (HX13.out.grow hg14)
      clear hg14
      go_wp2_with fail
      refine Counts_any _ B S _ HB14.out _ ?_
      intro w15 hg15
      rw [HFX.out, HCX.out]
      have HG15 := Lib.hid (HG14.out.trans hg15)
      have HB15 := Lib.hid (HB14.out.grow hg15)
      have HX15 := Lib.hid (HX14.out.grow hg15)
      clear hg15 HB13 HX13 HB14 HX14
      go_wp2_with fail
      refine Book_any _ B2 S _ (HG.out.grow HG15.out) HX15.out HOK.out _ ?_
      intro w16 hg16
      rw [HAS.out]
      have HG16 := Lib.hid (HG15.out.trans hg16)
      have HB16 := Lib.hid (HB15.out.grow hg16)
      have HX16 := Lib.hid (HX15.out.grow hg16)
      clear hg16
      go_wp2_with fail
      refine Program_any _ B2 S _ HX16.out HOK.out _ ?_
      intro w17 p17 base17 hg17 hb17 ho17
      have HV17 := Lib.hid (show LinesAt w17 p17 S.prog from slc_of_owns encL_len ho17)
      have HG17 := Lib.hid (HG16.out.trans hg17)
      have HB17 := Lib.hid (HB16.out.grow hg17)
      have HX17 := Lib.hid (HX16.out.grow hg17)
      clear hg17 hb17 ho17
      go_wp2_with fail
      refine Program_any _ B S _ HB17.out HOK.out _ ?_
      intro w18 p18 base18 hg18 hb18 ho18
      have HV18 := Lib.hid (show LinesAt w18 p18 S.prog from slc_of_owns encL_len ho18)
      have HG18 := Lib.hid (HG17.out.trans hg18)
      have HB18 := Lib.hid (HB17.out.grow hg18)
      have HX18 := Lib.hid (HX17.out.grow hg18)
      have HVG := Lib.hid hg18
      clear hg18 hb18 ho18
      go_wp2_with fail
      refine rsame4_any S.prog S.prog _ _ _ (HV17.out.grow HVG.out) HV18.out _ ?_
      intro w19 hg19
      rw [decide_eq_true rfl]
      have HG19 := Lib.hid (HG18.out.trans hg19)
      have HB19 := Lib.hid (HB18.out.grow hg19)
      have HX19 := Lib.hid (HX18.out.grow hg19)
      clear hg19 HVG HV17 HV18
      go_wp2_with fail
      refine Tests_any _ B2 S _ HX19.out HOK.out _ ?_
      intro w20 p20 base20 T20 hg20 hb20 ho20 hx20
      have HV20 := Lib.hid ho20.at_
      have HE20 := Lib.hid hx20
      have HG20 := Lib.hid (HG19.out.trans hg20)
      have HB20 := Lib.hid (HB19.out.grow hg20)
      have HX20 := Lib.hid (HX19.out.grow hg20)
      clear hg20 hb20 ho20 hx20
      go_wp2_with fail
      refine Tests_any _ B S _ HB20.out HOK.out _ ?_
      intro w21 p21 base21 T21 hg21 hb21 ho21 hx21
      have HV21 := Lib.hid ho21.at_
      have HE21 := Lib.hid hx21
      have HG21 := Lib.hid (HG20.out.trans hg21)
      have HB21 := Lib.hid (HB20.out.grow hg21)
      have HX21 := Lib.hid (HX20.out.grow hg21)
      have HVG := Lib.hid hg21
      clear hg21 hb21 ho21 hx21
      go_wp2_with fail
      refine rSameTests_any S.tests T20 T21 _ _ _ (HV20.out.grow HVG.out) HV21.out HE20.out HE21.out _ ?_
      intro w22 hg22
      have HG22 := Lib.hid (HG21.out.trans hg22)
      have HB22 := Lib.hid (HB21.out.grow hg22)
      have HX22 := Lib.hid (HX21.out.grow hg22)
      clear hg22 HVG HV20 HV21
      go_wp2_with fail
      refine Locked_any _ B2 S _ HX22.out HOK.out _ ?_
      intro w23 p23 base23 hg23 hb23 ho23
      have HV23 := Lib.hid (show IntsAt w23 p23 S.lk from slc_of_owns encI_len ho23)
      have HG23 := Lib.hid (HG22.out.trans hg23)
      have HB23 := Lib.hid (HB22.out.grow hg23)
      have HX23 := Lib.hid (HX22.out.grow hg23)
      clear hg23 hb23 ho23
      go_wp2_with fail
      refine Locked_any _ B S _ HB23.out HOK.out _ ?_
      intro w24 p24 base24 hg24 hb24 ho24
      have HV24 := Lib.hid (show IntsAt w24 p24 S.lk from slc_of_owns encI_len ho24)
      have HG24 := Lib.hid (HG23.out.trans hg24)
      have HB24 := Lib.hid (HB23.out.grow hg24)
      have HX24 := Lib.hid (HX23.out.grow hg24)
      have HVG := Lib.hid hg24
      clear hg24 hb24 ho24
      go_wp2_with fail
      refine rsameI4_any S.lk S.lk _ _ _ (HV23.out.grow HVG.out) HV24.out _ ?_
      intro w25 hg25
      rw [decide_eq_true rfl]
      have HG25 := Lib.hid (HG24.out.trans hg25)
      have HB25 := Lib.hid (HB24.out.grow hg25)
      have HX25 := Lib.hid (HX24.out.grow hg25)
      clear hg25 HVG HV23 HV24
      go_wp2_with fail
      refine History_any _ B2 S _ HX25.out HOK.out _ ?_
      intro w26 p26 base26 T26 hg26 hb26 hn26 ho26 hx26
      have HV26 := Lib.hid ho26
      have HE26 := Lib.hid hx26
      have HG26 := Lib.hid (HG25.out.trans hg26)
      have HB26 := Lib.hid (HB25.out.grow hg26)
      have HX26 := Lib.hid (HX25.out.grow hg26)
      clear hg26 hb26 ho26 hx26 hn26
      go_wp2_with fail
      refine History_any _ B S _ HB26.out HOK.out _ ?_
      intro w27 p27 base27 T27 hg27 hb27 hn27 ho27 hx27
      have HV27 := Lib.hid ho27
      have HE27 := Lib.hid hx27
      have HG27 := Lib.hid (HG26.out.trans hg27)
      have HB27 := Lib.hid (HB26.out.grow hg27)
      have HX27 := Lib.hid (HX26.out.grow hg27)
      have HVG := Lib.hid hg27
      clear hg27 hb27 ho27 hx27 hn27
      go_wp2_with fail
      refine same7_any S.hist T26 T27 _ _ _ (HV26.out.grow HVG.out) HV27.out HE26.out HE27.out _ ?_
      intro w28 hg28
      have HG28 := Lib.hid (HG27.out.trans hg28)
      have HB28 := Lib.hid (HB27.out.grow hg28)
      have HX28 := Lib.hid (HX27.out.grow hg28)
      clear hg28 HVG HV26 HV27
      go_wp2_with fail
      refine Failing9_any _ B2 S _ HX28.out HOK.out _ ?_
      intro w29 p29 base29 hg29 hb29 ho29
      have HV29 := Lib.hid (show IntsAt w29 p29 (failB S.prog S.tests) from ho29.slc encI_len)
      have HG29 := Lib.hid (HG28.out.trans hg29)
      have HB29 := Lib.hid (HB28.out.grow hg29)
      have HX29 := Lib.hid (HX28.out.grow hg29)
      clear hg29 hb29 ho29
      go_wp2_with fail
      refine Failing9_any _ B S _ HB29.out HOK.out _ ?_
      intro w30 p30 base30 hg30 hb30 ho30
      have HV30 := Lib.hid (show IntsAt w30 p30 (failB S.prog S.tests) from ho30.slc encI_len)
      have HG30 := Lib.hid (HG29.out.trans hg30)
      have HB30 := Lib.hid (HB29.out.grow hg30)
      have HX30 := Lib.hid (HX29.out.grow hg30)
      have HVG := Lib.hid hg30
      clear hg30 hb30 ho30
      go_wp2_with fail
      refine rsameI4_any (failB S.prog S.tests) (failB S.prog S.tests) _ _ _ (HV29.out.grow HVG.out) HV30.out _ ?_
      intro w31 hg31
      rw [decide_eq_true rfl]
      have HG31 := Lib.hid (HG30.out.trans hg31)
      have HB31 := Lib.hid (HB30.out.grow hg31)
      have HX31 := Lib.hid (HX30.out.grow hg31)
      clear hg31 HVG HV29 HV30
      go_wp2_with fail
      refine Audit_any _ B S p _ (HG.out.grow HG31.out) HB31.out HOK.out HREP.out H0.out _ ?_
      intro w32 hg32
      have HF := Lib.hid (HR.out w32 (HG31.out.trans hg32))
      clear hg32
      go_wp2_with fail
      exact HF.out
end Go.Proofs.YtgjppekjkofdiaaGreatDoor
