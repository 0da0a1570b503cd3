/- The walks of package suite: the smallest cover; the function value that recovers. -/
import Derived.Test.YtfbfkkaepgcggaaGreatQ16
import Derived.Recover
namespace Go.Proofs.YtfbfkkaepgcggaaGreat
open Go.RowKit

theorem box1f {w : World} {b : Nat} {c0 : Value} {e : TypeId} (h : w.heap[b]? = some (.cells #[c0] e (0, 0))) : w.frozen? ⟨b, 0, none⟩ = false := by
  unfold World.frozen?; rw [h]; rfl
theorem slc_setCell8 {α : Type} {k : Nat} {enc : α → List Value} {w : World} {g j : Nat} {u : Value} {a : Option Addr} {n c : Nat} {xs : List α} (h : SlcAt k enc w (.slice a n c) xs) (hb : ∀ b o s, a = some ⟨b, o, s⟩ → b ≠ g) : SlcAt k enc (w.setCell ⟨g, j, none⟩ u) (.slice a n c) xs := by
  obtain ⟨a', c', hv, h1, h2, h3⟩ := h
  cases hv
  refine ⟨a, c, rfl, h1, h2, h3.imp id ?_⟩
  rintro ⟨b, o, rfl, hbl, hc⟩
  refine ⟨b, o, rfl, by rw [World.size_setCell]; exact hbl, fun j x hx i u hu => ?_⟩
  rw [World.cell?_setCell_far _ _ _ _ (fun h => hb b o none rfl h.symm)]
  exact hc j x hx i u hu
def foundR (v : Value) : List PanicEntry := [{ v := .iface 52 (.agg #[v]), recovered := true }]
set_option maxHeartbeats 4000000 in
theorem cover1_panicking (p q : Nat) (a : Option Addr) (n c : Nat) (u1 u2 : Value) (w : World) (hp : w.heap[p]? = some (.cells #[u1] 25 (0, 0))) (hq : w.heap[q]? = some (.cells #[u2] 26 (0, 0))) (hne : p ≠ q) :
    CallsD Tryz.prog 22 #[.pointer (some ⟨p, 0, none⟩), .pointer (some ⟨q, 0, none⟩)] (.panicking (foundV (.slice a n c))) w fun e u' w' =>
      e = .returned (.tuple #[]) ∧ u' = .panicking (foundR (.slice a n c)) ∧ w' = ((w.alloc (.cells #[.slice a n c] 52)).setCell ⟨p, 0, none⟩ (.slice a n c)).setCell ⟨q, 0, none⟩ (.int .i64 0) := by
  have hta : ∀ W : World, (Instr.typeAssert (.iface 52 (.agg #[.slice a n c])) 20 52 true).run Tryz.prog W = .ok (.tuple #[.agg #[.slice a n c], .bool true]) W := by
    intro W
    kernel_rfl
  refine callsD_of_wpS Tryz.func22 rfl fun c₀ cs hu => ?_
  apply wpS_seq
  apply wpS_region
  simp [wpOpsS, go_sem, recoverD, hu, foundV, Tryz.ntmps22, Exit.thenS]
  refine wpS_of_wp ?_
  rw [show (#[Value.pointer (some ⟨p, 0, none⟩), Value.pointer (some ⟨q, 0, none⟩)] ++ ((Array.replicate 16 undef).setIfInBounds 3 (Value.iface 52 (Value.agg #[Value.slice a n c]))).setIfInBounds 0 (Value.iface 52 (Value.agg #[Value.slice a n c])) : Array Value) = #[Value.pointer (some ⟨p, 0, none⟩), Value.pointer (some ⟨q, 0, none⟩), Value.iface 52 (Value.agg #[Value.slice a n c]), undef, undef, Value.iface 52 (Value.agg #[Value.slice a n c]), undef, undef, undef, undef, undef, undef, undef, undef, undef, undef, undef, undef] from by rfl]
  have hA1 := ((Grow.refl w).alloc (.cells #[.slice a n c] 52)).blk hp
  have hA2 := ((Grow.refl w).alloc (.cells #[.slice a n c] 52)).blk hq
  have hA3 : ((w.alloc (.cells #[.slice a n c] 52)).setCell ⟨p, 0, none⟩ (.slice a n c)).heap[q]? = _ := (Below.heap_setCell _ _ _ _ (Ne.symm hne)).trans hA2
  have f1 := box1 hA1
  have f2 := box1f hA1
  have f3 := box1 hA3
  have f4 := box1f hA3
  have f5 := box1 hA2
  have f6 := box1f hA2
  clear hA1 hA2 hA3
  go_wp2_with fail
  exact ⟨rfl, _, rfl, _, by simp [results, Tryz.results22, go_sem], rfl, rfl, rfl⟩
set_option maxRecDepth 100000 in
set_option maxHeartbeats 8000000 in
theorem Cover_any (T : List (List Int)) (tv : Value) (w : World) (hx : FamAt w tv T) (hv : ValS T)
    (R : Ending → World → Prop) (hR : ∀ w' v C, Grow w w' → coverN (covH (hitS T) (goalsS T) T.length) T.length = some C → (∃ a c, v = .slice a C.length c) → IntsAt w' v (natL C) → R (.returned (.tuple #[v, .int .i64 0])) w') :
    Calls Tryz.prog 4 #[tv] w R := by
  have HX := Lib.hid hx
  have HV := Lib.hid hv
  have HR := Lib.hid hR
  have hn8 := hv.rows
  obtain ⟨a, c, rfl, k1, k2⟩ := hx.out
  obtain ⟨n, hn⟩ : ∃ n, T.length = n := ⟨_, rfl⟩
  have HN := Lib.hid hn
  rw [hn] at HX k1 hn8 HR ⊢
  clear hR hx hv hn
  have hmf : ∀ (fn : Fn) (first cap : Array Value) (w : World), (Instr.makeFunc fn first cap).run Tryz.prog w = .ok (.func fn first cap) w := fun _ _ _ _ => rfl
  go_enter_defers Tryz.func4, Tryz.ntmps4
  go_wp2_with fail
  have hb0 := heap_two0 w (.cells #[.slice none 0 0] 25) (.cells #[.int .i64 0] 26)
  have hb1 := heap_two1 w (.cells #[.slice none 0 0] 25) (.cells #[.int .i64 0] 26)
  have hg0 : Grow w ((w.alloc (.cells #[.slice none 0 0] 25)).alloc (.cells #[.int .i64 0] 26)) := ((Grow.refl w).alloc _).alloc _
  have hz0 : ((w.alloc (.cells #[.slice none 0 0] 25)).alloc (.cells #[.int .i64 0] 26)).heap.size = w.heap.size + 2 := by simp
  generalize (w.alloc (.cells #[.slice none 0 0] 25)).alloc (.cells #[.int .i64 0] 26) = W at hb0 hb1 hg0 hz0 ⊢
  have HB0 := Lib.hid hb0
  have HB1 := Lib.hid hb1
  have HG0 := Lib.hid hg0
  clear hb0 hb1 hg0
  refine uValidate_any T _ _ (HX.out.grow HG0.out) _ ?_
  intro w1 e hg1 he
  obtain rfl := errS_ok he HV.out
  have HG1 := Lib.hid hg1
  clear hg1 he
  go_wp2_with fail
  obtain ⟨hit, hH⟩ : ∃ z, hitS T = z := ⟨_, rfl⟩
  obtain ⟨G, hG⟩ : ∃ z, goalsS T = z := ⟨_, rfl⟩
  rw [hH, hG] at HR
  have HH := Lib.hid hH
  have HGG := Lib.hid hG
  clear hH hG
  go_loopw [5, 15] (fun _ i wr => ∃ m : Nat, m ≤ n + 1 ∧ i = .int .i64 m ∧ Grow W wr ∧ ∀ m', m' < m → srch (covH hit G n) n m' [] 0 = none) (fun _ i _ => n + 1 - (intOf i).toNat)
  case atStart => exact ⟨0, Nat.zero_le _, rfl, HG1.out, fun m' h => by omega⟩
  case round =>
    obtain ⟨m, hm, rfl, hg, hno⟩ := hrel
    have HG := Lib.hid hg
    have HNO := Lib.hid hno
    clear hg hno
    by_cases hlt : m < n + 1
    · have hlt2 : (m : Int) < (n : Int) + 1 := by omega
      go_wp2_with fail
      refine search_any T HV.out wr.heap.size n G hit HN.out HGG.out HH.out m 0 [] _ _ _ (HX.out.grow (HG0.out.trans HG.out)) (SlcAt.nil _ _ _) (fun r hr => by cases hr) (by simp; omega) (NewS.nil _ _ _) (Nat.le_refl _) _ ?_ ?_
      · intro hsn w8 hg8
        have HG8 := Lib.hid (HG.out.trans hg8)
        have HNO2 := Lib.hid (show ∀ m', m' < m + 1 → srch (covH hit G n) n m' [] 0 = none from fun m' h1 => by
          by_cases h3 : m' = m
          · rw [h3]; exact hsn
          · exact HNO.out m' (by omega))
        clear hsn hg8
        go_wp2_with fail
        go_roundw
        case rel => exact ⟨m + 1, by omega, by go_num, HG8.out, HNO2.out⟩
        case measure => simp [intOf]; omega
      · intro D hD w8 v8 hg8 hv8 hn8 hi8
        have HC := Lib.hid (cover_hit (by omega) HNO.out hD)
        have HG8 := Lib.hid (HG.out.trans hg8)
        obtain ⟨da, dc, rfl⟩ := hv8
        have HN8 := Lib.hid hn8
        have HI8 := Lib.hid hi8
        have hb8 := HG8.out.blk HB0.out
        have hc8 := HG8.out.blk HB1.out
        have hzr := HG.out.sz
        clear hD hg8 hn8 hi8
        change bodyPostD _ _ R (.panic (foundV (.slice da D.length dc))) _ w8
        unfold bodyPostD
        dsimp only
        refine leaves_cons (f := 22) (args := #[.pointer (some ⟨w.heap.size, 0, none⟩), .pointer (some ⟨w.heap.size + 1, 0, none⟩)]) (by simp) (by simp [go_sem]) ?_
        refine (cover1_panicking w.heap.size (w.heap.size + 1) da D.length dc _ _ w8 hb8 hc8 (by omega)).mono ?_
        rintro e u' w9 ⟨rfl, rfl, hw9⟩
        have hA0 := ((Grow.refl w8).alloc (.cells #[.slice da D.length dc] 52)).blk hb8
        have hA1 := ((Grow.refl w8).alloc (.cells #[.slice da D.length dc] 52)).blk hc8
        have hIA := HI8.out.grow ((Grow.refl w8).alloc (.cells #[.slice da D.length dc] 52))
        have hGA := HG0.out.trans (HG8.out.trans ((Grow.refl w8).alloc (.cells #[.slice da D.length dc] 52)))
        have hoff : ∀ b o s, da = some ⟨b, o, s⟩ → w.heap.size + 2 ≤ b := fun b o s h => by
          have := HN8.out ⟨b, o, s⟩ D.length dc (by rw [h])
          dsimp only at this
          omega
        clear hb8 hc8
        generalize w8.alloc (.cells #[.slice da D.length dc] 52) = X at hA0 hA1 hIA hGA hw9
        have hB1 : (X.setCell ⟨w.heap.size, 0, none⟩ (.slice da D.length dc)).heap[w.heap.size + 1]? = _ := (Below.heap_setCell _ _ _ _ (by show w.heap.size + 1 ≠ w.heap.size; omega)).trans hA1
        have c1 : w9.cell? ⟨w.heap.size, 0, none⟩ = some (.slice da D.length dc) := by
          rw [hw9, World.cell?_setCell_far _ _ _ _ (by show ¬ w.heap.size + 1 = w.heap.size; omega)]
          exact World.cell?_setCell_same' _ _ _ (by rw [box1 hA0]; rfl)
        have c2 : w9.cell? ⟨w.heap.size + 1, 0, none⟩ = some (.int .i64 0) := by
          rw [hw9]
          exact World.cell?_setCell_same' _ _ _ (by rw [box1 hB1]; rfl)
        have hi9 : IntsAt w9 (.slice da D.length dc) (natL D) := by
          rw [hw9]
          exact slc_setCell8 (slc_setCell8 hIA fun b o s h => by have := hoff b o s h; omega) fun b o s h => by have := hoff b o s h; omega
        have hg9 : Grow w w9 := by
          rw [hw9]
          exact Below.setCell (Below.setCell hGA (Nat.le_refl _) _) (by show w.heap.size ≤ w.heap.size + 1; omega) _
        have HF := HR.out w9 _ D hg9 HC.out ⟨da, dc, rfl⟩ hi9
        clear hw9 hA0 hA1 hIA hGA hB1 hi9 hg9
        exact ⟨_, by simp [results, Tryz.results4, go_sem, c1, c2], HF⟩
    · obtain ⟨C, hC, _⟩ := coverN_some (cov_range hit G n)
      rw [cover_stop fun m' hm' => HNO.out m' (by omega)] at hC
      cases hC
end Go.Proofs.YtfbfkkaepgcggaaGreat
