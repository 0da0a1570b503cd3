/- The walks of package code: the slice of a register. First the library's iterator over a slice from its end. -/
import Derived.Test.YtmaphlbmmemgcaaCodeF
import Derived.Test.YtmaphlbmmemgcaaPlD
import Derived.RangeFuncNested
import Derived.RangeFuncBound
import Derived.RangeFuncCalls
import Derived.RangeFuncLeaves
import Derived.RangeFuncFrom
import Derived.Shelf.RegionOpen
import Derived.WalkKit
import Derived.OwnWalkIn
import Derived.TacticsInMore
import Derived.LoopNIn
import Derived.LoopIn
namespace Go.Proofs.Ytmaphlbmmemgcaa
open Go.RowKit

attribute [local go_sem] Oper.semAt_some

set_option maxRecDepth 100000 in
set_option maxHeartbeats 2000000 in
theorem back_in (n : Nat) (hn : 1 ≤ n) (l Bs b off : Nat) (vs : List (Nat × St)) (a : Option Addr) (c : Nat) (hlen : vs.length < 1000000) (ha : vs ≠ [] → a = some ⟨b, off, none⟩) (J Jx : List (Fin vs.length) → World → Prop)
    (hY : ∀ pre x W, J pre W → pre.length < vs.length → YieldAt Fence.wide (n - 1) Try.prog l (encB vs x) W fun e W' =>
      (e = .returned (.bool true) ∧ J (pre ++ [x]) W' ∧ KeepAt Bs b W W') ∨ (e = .returned (.bool false) ∧ Jx (pre ++ [x]) W'))
    (W : World) (hBs : W.cell? ⟨Bs, 0, none⟩ = some (.slice a vs.length c)) (hb : vs ≠ [] → b < W.heap.size) (hc : ∀ j x, vs[j]? = some x → ∀ i u, (encV x)[i]? = some u → W.cell? ⟨b, off + j * 5 + i, none⟩ = some u) (h0 : J [] W) :
    CallsIn Fence.wide n Try.prog 90 #[.func (.yield l) #[] #[], .pointer (some ⟨Bs, 0, none⟩)] W fun e W' => (∃ v, e = .returned v) ∧
      ((∃ ys, ys = List.finRange vs.length ∧ J ys W') ∨ (∃ pre : List (Fin vs.length), True ∧ Jx pre W')) := by
  refine callsIn_of_wp Try.func90 rfl trivial ?_ rfl
  simp only [Try.ntmps90, List.size_toArray, List.length_cons, List.length_nil, Nat.reduceAdd, Nat.reduceSub, Array.replicate_succ, Array.replicate_zero, List.push_toArray, List.append_toArray, List.nil_append, List.cons_append]
  gi_wp2
  gi_loopw [3] (fun i wr => ∃ k : Nat, k ≤ vs.length ∧ i = .int .i64 ((vs.length : Int) - 1 - k) ∧ J ((List.finRange vs.length).take k) wr ∧ KeepAt Bs b W wr)
    (fun i _ => (intOf i + 1).toNat)
  case atStart => exact ⟨0, Nat.zero_le _, by go_num, by simpa using h0, KeepAt.refl _ _ _⟩
  case round =>
    obtain ⟨k, hk, rfl, hJs, hkp⟩ := hrel
    have hs := cell_of_heap hkp.1 hBs
    by_cases hlt : k < vs.length
    · obtain ⟨m, hm⟩ : ∃ m, vs.length = m + 1 + k := ⟨vs.length - 1 - k, by omega⟩
      obtain ⟨⟨ln, st⟩, hx⟩ : ∃ x, vs[m]? = some x := ⟨_, List.getElem?_eq_getElem (by omega)⟩
      obtain rfl := ha (by intro e; rw [e] at hlt; simp at hlt)
      have hbW := hb (by intro e; rw [e] at hlt; simp at hlt)
      obtain ⟨c0, c1, c2, c3, c4⟩ := visits_cell hc m _ hx
      have e0 := cell_of_heap hkp.2 c0
      have e1 := cell_of_heap hkp.2 c1
      have e2 := cell_of_heap hkp.2 c2
      have e3 := cell_of_heap hkp.2 c3
      have e4 := cell_of_heap hkp.2 c4
      have hi : (vs.length : Int) - 1 - k = (m : Int) := by omega
      obtain ⟨fn, tmps, assign, body, hy, hR⟩ := hY _ ⟨k, hlt⟩ wr hJs (by simp; omega)
      rw [encB_at vs m k hm hlt _ hx] at hy
      rw [hi]
      have HKP := Lib.hid hkp
      have HY := Lib.hid hY
      have hml : m < vs.length := by omega
      have HM := Lib.hid hm
      clear c0 c1 c2 c3 c4 hY hkp hJs hc hb ha hBs hm hi
      gi_wp2
      refine hR.mono ?_
      rintro e W3 (⟨rfl, hJ3, hk3⟩ | ⟨rfl, hJx3⟩)
      · rw [← fin_take _ _ hlt] at hJ3
        have HJ3 := Lib.hid hJ3
        have HK3 := Lib.hid hk3
        clear hJ3 hk3
        gi_wp2
        go_roundw
        case rel =>
          have hm := HM.out
          exact ⟨k + 1, by omega, by simp; omega, HJ3.out, HKP.out.trans HK3.out⟩
        case measure => have hm := HM.out; simp [intOf]
      · gi_wp2
        refine bodyPost_ret (results_none rfl _ _ _) rfl ?_
        exact ⟨⟨_, rfl⟩, .inr ⟨_, trivial, hJx3⟩⟩
    · obtain rfl : k = vs.length := by omega
      have hi : (vs.length : Int) - 1 - (vs.length : Nat) = -1 := by omega
      rw [hi]
      gi_wp2
      go_end0
      rw [List.take_of_length_le (by simp)] at hJs
      exact ⟨⟨_, rfl⟩, .inl ⟨_, rfl, hJs⟩⟩

theorem back_stops (n : Nat) (hn : 1 ≤ n) (Bs b off : Nat) (vs : List (Nat × St)) (a : Option Addr) (c : Nat) (hlen : vs.length < 1000000) (ha : vs ≠ [] → a = some ⟨b, off, none⟩) (w : World) (hBs : w.cell? ⟨Bs, 0, none⟩ = some (.slice a vs.length c)) (hb : vs ≠ [] → b < w.heap.size)
    (hc : ∀ j x, vs[j]? = some x → ∀ i u, (encV x)[i]? = some u → w.cell? ⟨b, off + j * 5 + i, none⟩ = some u) :
    SeqStopsK Fence.wide n Try.prog 90 #[.pointer (some ⟨Bs, 0, none⟩)] (encB vs) (KeepAt Bs b) (fun ys => ys = List.finRange vs.length) (fun _ => True) vs.length w := fun l J Jx W hW _ _ hY h0 =>
  back_in n hn l Bs b off vs a c hlen ha J Jx hY W (hW.cell (p := ⟨Bs, 0, none⟩) (World.block_lt_of_cell? _ _ hBs) |>.trans hBs) (fun h => Nat.lt_of_lt_of_le (hb h) hW.size) (fun j x hx i u hu => Grow.cell hW (hc j x hx i u hu)) h0

set_option maxHeartbeats 1000000 in
theorem backward_any (a : Option Addr) (len c : Nat) (w : World) (R : Ending → World → Prop)
    (hR : R (.returned (.func (.func 90) #[] #[.pointer (some ⟨w.heap.size, 0, none⟩)])) (w.alloc (.cells #[.slice a len c] 73))) :
    Calls Try.prog 62 #[.slice a len c] w R := by
  go_enter Try.func62, Try.ntmps62
  go_wp2_with fail
  exact hR
end Go.Proofs.Ytmaphlbmmemgcaa
