/-
The table of kills that the statement TopSuites makes: plainly, and as it lies in memory.
How the statement TopSuites makes its table of kills: a new row, appended.
-/
import Derived.Test.YtfbfkkaepgcggaaGreatQ41
import Derived.Test.YtfbfkkaepgcggaaGreatQ46
import Derived.Test.YtfbfkkaepgcggaaGreatQ32
import Derived.Test.YtfbfkkaepgcggaaGreatQ02
namespace Go.Proofs.YtfbfkkaepgcggaaGreat
open Go.RowKit

def rowP (m : Nat) (q : Nat → Bool) : List Int := (List.range m).map fun j => if q j then 1 else 0
def tabP (n m : Nat) (P : Nat → Nat → Bool) : List (List Int) := (List.range n).map fun i => rowP m (P i)
theorem rowP_len (m : Nat) (q : Nat → Bool) : (rowP m q).length = m := by unfold rowP; rw [List.length_map, List.length_range]
theorem rowP_at {m : Nat} {q : Nat → Bool} {j : Nat} (h : j < m) : (rowP m q)[j]? = some (if q j then 1 else 0) := by
  unfold rowP; rw [List.getElem?_map, List.getElem?_range h]; rfl
theorem rowP_set (m : Nat) (q : Nat → Bool) (g : Nat) : (rowP m q).set g 1 = rowP m (fun j => q j || j == g) := by
  refine List.ext_getElem? fun j => ?_
  rw [List.getElem?_set]
  by_cases hj : j < m
  · rw [rowP_at hj, rowP_len]
    by_cases hg : g = j
    · subst hg; rw [if_pos rfl, if_pos hj, rowP_at hj]; simp
    · rw [if_neg hg, rowP_at hj]
      have : (j == g) = false := by simpa using fun e : j = g => hg e.symm
      rw [this, Bool.or_false]
  · have e1 : ∀ q' : Nat → Bool, (rowP m q')[j]? = none := fun q' => List.getElem?_eq_none (by rw [rowP_len]; omega)
    rw [e1, e1, rowP_len]
    by_cases hg : g = j
    · rw [if_pos hg, if_neg (by omega)]
    · rw [if_neg hg]
theorem rowP_zero (m : Nat) : List.replicate m (0 : Int) = rowP m (fun _ => false) := by
  unfold rowP
  refine List.ext_getElem? fun j => ?_
  rw [List.getElem?_replicate, List.getElem?_map]
  by_cases h : j < m
  · rw [if_pos h, List.getElem?_range h]; rfl
  · rw [if_neg h, List.getElem?_eq_none (by rw [List.length_range]; omega)]; rfl
theorem tabP_len (n m : Nat) (P : Nat → Nat → Bool) : (tabP n m P).length = n := by unfold tabP; rw [List.length_map, List.length_range]
theorem tabP_at {n m : Nat} {P : Nat → Nat → Bool} {i : Nat} (h : i < n) : (tabP n m P)[i]? = some (rowP m (P i)) := by
  unfold tabP; rw [List.getElem?_map, List.getElem?_range h]; rfl
theorem tabP_goals {n m : Nat} {P : Nat → Nat → Bool} (h : 0 < n) : goalsS (tabP n m P) = m := by
  obtain ⟨n, rfl⟩ : ∃ k, n = k + 1 := ⟨n - 1, by omega⟩
  unfold goalsS tabP
  rw [List.range_succ_eq_map, List.map_cons, List.headD_cons, rowP_len]
theorem tabP_hit {n m : Nat} {P : Nat → Nat → Bool} {r g : Nat} (hr : r < n) (hg : g < m) : hitS (tabP n m P) r g = P r g := by
  unfold hitS
  rw [show (tabP n m P).getD r [] = rowP m (P r) from by rw [List.getD_eq_getElem?_getD, tabP_at hr]; rfl, List.getD_eq_getElem?_getD, rowP_at hg, Option.getD_some]
  cases P r g <;> rfl
theorem tabP_val {n m : Nat} {P : Nat → Nat → Bool} (h : 0 < n) (h8 : n ≤ 8) (hm : m ≤ 10) : ValS (tabP n m P) := by
  have hg := tabP_goals (m := m) (P := P) h
  refine ⟨by rw [tabP_len]; exact h8, by rw [hg]; exact hm, fun r hr => ?_, fun r hr x hx => ?_⟩
  · unfold tabP at hr
    obtain ⟨i, _, rfl⟩ := List.mem_map.1 hr
    rw [hg, rowP_len]
  · unfold tabP at hr
    obtain ⟨i, _, rfl⟩ := List.mem_map.1 hr
    unfold rowP at hx
    obtain ⟨j, _, rfl⟩ := List.mem_map.1 hx
    cases P i j <;> decide
/-- What the table holds when g goals are done and q of the kills of the next one. -/
def KlP (K : Nat → List Int) (g q : Nat) (n m : Nat) (P : Nat → Nat → Bool) : Prop := ∀ r, r < n → ∀ j, j < m → P r j = ((decide (j < g) && decide ((r : Int) ∈ K j)) || (decide (j = g) && decide ((r : Int) ∈ (K g).take q)))
theorem KlP.start (K : Nat → List Int) (n m : Nat) : KlP K 0 0 n m (fun _ _ => false) := fun r _ j _ => by simp
theorem KlP.set {K : Nat → List Int} {g q n m : Nat} {P : Nat → Nat → Bool} (h : KlP K g q n m P) {i : Nat} (hi : (K g)[q]? = some (i : Int)) : KlP K g (q + 1) n m (fun r j => P r j || (r == i && j == g)) := fun r hr j hj => by
  show (P r j || (r == i && j == g)) = _
  rw [h r hr j hj, List.take_add_one, hi]
  by_cases hjg : j = g
  · subst hjg
    by_cases hri : r = i
    · subst hri; simp
    · have : ¬ (r : Int) = (i : Int) := by omega
      have h2 : (r == i) = false := by simpa using hri
      simp [this, h2]
  · have : (j == g) = false := by simpa using hjg
    simp [hjg, this]
theorem KlP.next {K : Nat → List Int} {g q n m : Nat} {P : Nat → Nat → Bool} (h : KlP K g q n m P) (hq : (K g).length ≤ q) : KlP K (g + 1) 0 n m P := fun r hr j hj => by
  rw [h r hr j hj, List.take_of_length_le hq, List.take_zero]
  by_cases hjg : j = g
  · subst hjg; simp
  · by_cases h1 : j < g
    · simp [h1, hjg, show j < g + 1 by omega]
    · simp [h1, hjg, show ¬ j < g + 1 by omega]
theorem KlP.tab {K : Nat → List Int} {n m : Nat} {P : Nat → Nat → Bool} (h : KlP K m 0 n m P) (hin : ∀ g, g < m → ∀ i ∈ K g, 0 ≤ i ∧ i.toNat < n) : TabK (hitS (tabP n m P)) K n m :=
  ⟨fun r hr g hg => by rw [tabP_hit hr hg, h r hr g hg]; simp [hg], hin⟩

/-- The table as it lies in memory: the rows were made from the block base on, each in a block of its own. -/
structure Tab (base : Nat) (w : World) (ob oo n : Nat) (bs : List Nat) (m : Nat) (P : Nat → Nat → Bool) : Prop where
  len : bs.length = n
  obl : ob < w.heap.size
  out : ∀ i b, bs[i]? = some b → w.cell? ⟨ob, oo + i, none⟩ = some (.slice (some ⟨b, 0, none⟩) m m)
  nd : bs.Nodup
  blk : ∀ b ∈ bs, base ≤ b ∧ b < w.heap.size ∧ b ≠ ob
  row : ∀ i b, bs[i]? = some b → RowI w b (rowP m (P i))
theorem Tab.grow {base ob oo n m : Nat} {w w' : World} {bs : List Nat} {P : Nat → Nat → Bool} (h : Tab base w ob oo n bs m P) (g : Grow w w') : Tab base w' ob oo n bs m P :=
  ⟨h.len, Nat.lt_of_lt_of_le h.obl g.sz, fun i b hb => g.cell (h.out i b hb), h.nd, fun b hb => ⟨(h.blk b hb).1, Nat.lt_of_lt_of_le (h.blk b hb).2.1 g.sz, (h.blk b hb).2.2⟩,
    fun i b hb => (h.row i b hb).grow g (h.blk b (List.mem_of_getElem? hb)).2.1⟩
theorem Tab.set {base ob oo n m : Nat} {w : World} {bs : List Nat} {P : Nat → Nat → Bool} (h : Tab base w ob oo n bs m P) {i b : Nat} (hi : bs[i]? = some b) {g : Nat} (hg : g < m) :
    Tab base (w.setCell ⟨b, g, none⟩ (.int .i64 1)) ob oo n bs m (fun r j => P r j || (r == i && j == g)) := by
  have hs : (w.setCell ⟨b, g, none⟩ (.int .i64 1)).heap.size = w.heap.size := World.size_setCell _ _ _
  have hbo := (h.blk b (List.mem_of_getElem? hi)).2.2
  refine ⟨h.len, by rw [hs]; exact h.obl, fun i' b' hb' => ?_, h.nd, fun b' hb' => by rw [hs]; exact h.blk b' hb', fun i' b' hb' => ?_⟩
  · rw [World.cell?_setCell_other (h := by intro e; cases e; exact hbo rfl)]; exact h.out i' b' hb'
  · by_cases he : i' = i
    · subst he
      rw [hi] at hb'
      cases hb'
      have h1 := (h.row i' b hi).set (k := g) (by rw [rowP_len]; exact hg) 1
      rw [rowP_set] at h1
      have e : (fun j => P i' j || (i' == i' && j == g)) = fun j => P i' j || j == g := by funext j; simp
      rw [e]; exact h1
    · have hne : b' ≠ b := fun e => by
        subst e
        obtain ⟨h1, e1⟩ := List.getElem?_eq_some_iff.1 hb'
        obtain ⟨h2, e2⟩ := List.getElem?_eq_some_iff.1 hi
        exact he ((List.getElem_inj h.nd).1 (e1.trans e2.symm))
      have e : (fun j => P i' j || (i' == i && j == g)) = P i' := by
        funext j
        have : (i' == i) = false := by simpa using he
        rw [this]; simp
      rw [e]
      exact (h.row i' b' hb').heap (Below.heap_setCell _ _ _ _ hne)
theorem Tab.fam {base ob oo n m c : Nat} {w : World} {bs : List Nat} {P : Nat → Nat → Bool} (h : Tab base w ob oo n bs m P) (hc : n ≤ c) (hcm : c ≤ 9223372036854775807) (hm : m < 1000) : FamAt w (.slice (some ⟨ob, oo, none⟩) n c) (tabP n m P) := by
  refine ⟨(List.range n).map fun i => ⟨some ⟨bs.getD i 0, 0, none⟩, m, m, rowP m (P i)⟩, ?_, fun t ht => ?_, by rw [List.map_map]; rfl⟩
  · refine ⟨_, _, by rw [List.length_map, List.length_range], by rw [List.length_map, List.length_range]; exact hc, hcm, .inr ⟨ob, oo, rfl, h.obl, fun j x hx i u hu => ?_⟩⟩
    have hi : i = 0 := by have := (List.getElem?_eq_some_iff.1 hu).1; simpa [encLo] using this
    subst hi
    have hu2 : u = x.v := by simpa [encLo] using hu.symm
    subst hu2
    have hj : j < n := by have := (List.getElem?_eq_some_iff.1 hx).1; simpa using this
    rw [List.getElem?_map, List.getElem?_range hj] at hx
    cases hx
    obtain ⟨b, hb⟩ : ∃ b, bs[j]? = some b := ⟨_, List.getElem?_eq_getElem (by rw [h.len]; exact hj)⟩
    rw [show oo + j * 1 + 0 = oo + j by omega, h.out j b hb]
    show _ = some (Value.slice (some ⟨bs.getD j 0, 0, none⟩) m m)
    rw [List.getD_eq_getElem?_getD, hb]
    rfl
  · obtain ⟨i, hi, rfl⟩ := List.mem_map.1 ht
    have hi := List.mem_range.1 hi
    obtain ⟨b, hb⟩ : ∃ b, bs[i]? = some b := ⟨_, List.getElem?_eq_getElem (by rw [h.len]; exact hi)⟩
    have h1 := (h.row i b hb).ints (c := m) (h.blk b (List.mem_of_getElem? hb)).2.1 (by rw [rowP_len]; exact Nat.le_refl _) (by omega)
    rw [rowP_len] at h1
    show IntsAt w (.slice (some ⟨bs.getD i 0, 0, none⟩) m m) (rowP m (P i))
    rw [List.getD_eq_getElem?_getD, hb]
    exact h1
/-- A table that has just been made. -/
def loZ (m b : Nat) : Lo Int := ⟨some ⟨b, 0, none⟩, m, m, List.replicate m 0⟩
theorem Tab.start {base base' : Nat} {T : TypeId} {w : World} {v : Value} {bs : List Nat} {m : Nat} (h : LoOwn base T 1 encI w v (bs.map (loZ m))) (hnd : bs.Nodup) (hb : ∀ b ∈ bs, base' ≤ b ∧ RowI w b (List.replicate m 0)) (hne : 0 < bs.length) :
    ∃ ob oo c, v = .slice (some ⟨ob, oo, none⟩) bs.length c ∧ bs.length ≤ c ∧ c ≤ 9223372036854775807 ∧ Tab base' w ob oo bs.length bs m (fun _ _ => false) := by
  obtain ⟨a, c, hv, h1, h2, h3⟩ := h.at_
  rw [List.length_map] at hv h1
  obtain ⟨ob, oo, rfl, hob, hcell⟩ := h3.resolve_left (by intro h0; have := h0.1; rw [List.map_eq_nil_iff] at this; rw [this] at hne; cases hne)
  refine ⟨ob, oo, c, hv, h1, h2, rfl, hob, fun i b hi => ?_, hnd, fun b hbm => ?_, fun i b hi => ?_⟩
  · have := hcell i (loZ m b) (by rw [List.getElem?_map, hi]; rfl) 0 _ rfl
    rw [show oo + i * 1 + 0 = oo + i by omega] at this
    exact this
  · obtain ⟨k1, k2⟩ := h.off _ (List.mem_map_of_mem hbm) b 0 none rfl
    refine ⟨(hb b hbm).1, k2, fun e => k1 ?_⟩
    have hr := h.row.2
    rw [hv] at hr ⊢
    rw [e]
    rcases hr with ⟨h2, _⟩ | ⟨g, cap, cur, h2, _⟩
    · cases h2
    · injection h2 with h3
      cases h3; rfl
  · rw [← rowP_zero]; exact (hb b (List.mem_of_getElem? hi)).2
end Go.Proofs.YtfbfkkaepgcggaaGreat

namespace Go.Proofs.YtfbfkkaepgcggaaGreat
open Go.RowKit

theorem mk_ints1 (W : World) : (Instr.makeSlice 25 (.int .i64 ((1 : Nat) : Int)) (.int .i64 ((1 : Nat) : Int))).run Tryz.prog W = .ok (.slice (some ⟨W.heap.size, 0, none⟩) 1 1) (W.alloc (.cells (Array.replicate 1 (Value.int .i64 0)) 3)) := by kernel_rfl
theorem mk_ints2 (W : World) : (Instr.makeSlice 25 (.int .i64 ((2 : Nat) : Int)) (.int .i64 ((2 : Nat) : Int))).run Tryz.prog W = .ok (.slice (some ⟨W.heap.size, 0, none⟩) 2 2) (W.alloc (.cells (Array.replicate 2 (Value.int .i64 0)) 3)) := by kernel_rfl
theorem mk_ints3 (W : World) : (Instr.makeSlice 25 (.int .i64 ((3 : Nat) : Int)) (.int .i64 ((3 : Nat) : Int))).run Tryz.prog W = .ok (.slice (some ⟨W.heap.size, 0, none⟩) 3 3) (W.alloc (.cells (Array.replicate 3 (Value.int .i64 0)) 3)) := by kernel_rfl
theorem mk_ints4 (W : World) : (Instr.makeSlice 25 (.int .i64 ((4 : Nat) : Int)) (.int .i64 ((4 : Nat) : Int))).run Tryz.prog W = .ok (.slice (some ⟨W.heap.size, 0, none⟩) 4 4) (W.alloc (.cells (Array.replicate 4 (Value.int .i64 0)) 3)) := by kernel_rfl
theorem mk_ints5 (W : World) : (Instr.makeSlice 25 (.int .i64 ((5 : Nat) : Int)) (.int .i64 ((5 : Nat) : Int))).run Tryz.prog W = .ok (.slice (some ⟨W.heap.size, 0, none⟩) 5 5) (W.alloc (.cells (Array.replicate 5 (Value.int .i64 0)) 3)) := by kernel_rfl
theorem mk_ints6 (W : World) : (Instr.makeSlice 25 (.int .i64 ((6 : Nat) : Int)) (.int .i64 ((6 : Nat) : Int))).run Tryz.prog W = .ok (.slice (some ⟨W.heap.size, 0, none⟩) 6 6) (W.alloc (.cells (Array.replicate 6 (Value.int .i64 0)) 3)) := by kernel_rfl
theorem mk_ints7 (W : World) : (Instr.makeSlice 25 (.int .i64 ((7 : Nat) : Int)) (.int .i64 ((7 : Nat) : Int))).run Tryz.prog W = .ok (.slice (some ⟨W.heap.size, 0, none⟩) 7 7) (W.alloc (.cells (Array.replicate 7 (Value.int .i64 0)) 3)) := by kernel_rfl
theorem mk_ints8 (W : World) : (Instr.makeSlice 25 (.int .i64 ((8 : Nat) : Int)) (.int .i64 ((8 : Nat) : Int))).run Tryz.prog W = .ok (.slice (some ⟨W.heap.size, 0, none⟩) 8 8) (W.alloc (.cells (Array.replicate 8 (Value.int .i64 0)) 3)) := by kernel_rfl
theorem mk_ints9 (W : World) : (Instr.makeSlice 25 (.int .i64 ((9 : Nat) : Int)) (.int .i64 ((9 : Nat) : Int))).run Tryz.prog W = .ok (.slice (some ⟨W.heap.size, 0, none⟩) 9 9) (W.alloc (.cells (Array.replicate 9 (Value.int .i64 0)) 3)) := by kernel_rfl
theorem mk_ints10 (W : World) : (Instr.makeSlice 25 (.int .i64 ((10 : Nat) : Int)) (.int .i64 ((10 : Nat) : Int))).run Tryz.prog W = .ok (.slice (some ⟨W.heap.size, 0, none⟩) 10 10) (W.alloc (.cells (Array.replicate 10 (Value.int .i64 0)) 3)) := by kernel_rfl
theorem mk_ints (n : Nat) (h0 : 0 < n) (hn : n ≤ 10) (W : World) : (Instr.makeSlice 25 (.int .i64 (n : Int)) (.int .i64 (n : Int))).run Tryz.prog W = .ok (.slice (some ⟨W.heap.size, 0, none⟩) n n) (W.alloc (.cells (Array.replicate n (Value.int .i64 0)) 3)) := by
  have : n = 1 ∨ n = 2 ∨ n = 3 ∨ n = 4 ∨ n = 5 ∨ n = 6 ∨ n = 7 ∨ n = 8 ∨ n = 9 ∨ n = 10 := by omega
  rcases this with rfl | rfl | rfl | rfl | rfl | rfl | rfl | rfl | rfl | rfl
  · exact mk_ints1 W
  · exact mk_ints2 W
  · exact mk_ints3 W
  · exact mk_ints4 W
  · exact mk_ints5 W
  · exact mk_ints6 W
  · exact mk_ints7 W
  · exact mk_ints8 W
  · exact mk_ints9 W
  · exact mk_ints10 W
/-- A row of noughts that has just been made. -/
theorem row0_new (W : World) (m : Nat) (T : TypeId) : RowI (W.alloc (.cells (Array.replicate m (Value.int .i64 0)) T)) W.heap.size (List.replicate m 0) := fun j x hj => by
  have hjm : j < m := by have := (List.getElem?_eq_some_iff.1 hj).1; rw [List.length_replicate] at this; exact this
  rw [List.getElem?_replicate, if_pos hjm] at hj
  cases hj
  have h := heap_alloc_new W (.cells (Array.replicate m (Value.int .i64 0)) T)
  refine ⟨?_, by unfold World.frozen?; rw [h]; rfl⟩
  simp only [World.cell?, h]
  simp [hjm]
/-- The rows that have been made so far. -/
structure MkT (B m k : Nat) (T : TypeId) (bs : List Nat) (w : World) (v : Value) : Prop where
  own : LoOwn B T 1 encI w v (bs.map (loZ m))
  len : bs.length = k
  nd : bs.Nodup
  blk : ∀ b ∈ bs, B ≤ b ∧ b < w.heap.size ∧ RowI w b (List.replicate m 0)
theorem MkT.nil (B m : Nat) (T : TypeId) (w : World) : MkT B m 0 T [] w (.slice none 0 0) := ⟨LoOwn.nil _ _ _ _ _, rfl, List.nodup_nil, by simp⟩
theorem MkT.app {B m k : Nat} {T T1 T2 : TypeId} {bs : List Nat} {w w5 : World} {v v5 u : Value} (h : MkT B m k T bs w v) (hB : B ≤ w.heap.size) (hm : m < 1000)
    (hown : w5.ownsRow B T 1 v5 (bs.map (loZ m) ++ [loZ m w.heap.size]).length ((bs.map (loZ m) ++ [loZ m w.heap.size]).flatMap encLo))
    (hgr : ((w.alloc (.cells (Array.replicate m (Value.int .i64 0)) T1)).alloc (.cells #[u] T2)).grownBy w5 v.ownBlock) (hat : v5.ownBlock = v.ownBlock ∨ v5.ownBlock = some ((w.alloc (.cells (Array.replicate m (Value.int .i64 0)) T1)).alloc (.cells #[u] T2)).heap.size) :
    MkT B m (k + 1) T (bs ++ [w.heap.size]) w5 v5 := by
  have g1 := (Grow.refl w).alloc (.cells (Array.replicate m (Value.int .i64 0)) T1)
  have g2 := g1.alloc (.cells #[u] T2)
  have hr1 := row0_new w m T1
  have hz : (w.alloc (.cells (Array.replicate m (Value.int .i64 0)) T1)).heap.size = w.heap.size + 1 := by simp
  have hz2 : ((w.alloc (.cells (Array.replicate m (Value.int .i64 0)) T1)).alloc (.cells #[u] T2)).heap.size = w.heap.size + 1 + 1 := by simp
  have hr2 := hr1.grow ((Grow.refl _).alloc (.cells #[u] T2)) (by omega)
  have hin : SlcAt 1 encI ((w.alloc (.cells (Array.replicate m (Value.int .i64 0)) T1)).alloc (.cells #[u] T2)) (loZ m w.heap.size).v (loZ m w.heap.size).x := by
    have := hr2.ints (c := m) (by omega) (by rw [List.length_replicate]; exact Nat.le_refl _) (by omega)
    rw [List.length_replicate] at this
    exact this
  have hne : v.ownBlock ≠ some w.heap.size := fun he => by have := h.own.lt he; omega
  have hL := (h.own.grow g2).app (t := loZ m w.heap.size) hgr hown hat hin (fun b o s hb => by
    cases hb
    exact ⟨hne, by omega⟩)
  refine ⟨by rw [List.map_append]; exact hL, by rw [List.length_append, h.len]; rfl, ?_, fun b hb => ?_⟩
  · rw [List.nodup_append]
    refine ⟨h.nd, by simp, fun a ha b hb => ?_⟩
    simp only [List.mem_singleton] at hb
    have := (h.blk a ha).2.1
    omega
  · have hsz := hgr.size
    rcases List.mem_append.1 hb with hb | hb
    · obtain ⟨k1, k2, k3⟩ := h.blk b hb
      refine ⟨k1, by omega, (k3.grow g2 k2).heap (hgr.block b (by omega) fun e => ?_)⟩
      exact (h.own.off _ (List.mem_map_of_mem hb) b 0 none rfl).1 e.symm
    · simp only [List.mem_singleton] at hb
      subst hb
      exact ⟨hB, by omega, hr2.heap (hgr.block _ (by omega) fun e => hne e.symm)⟩
theorem MkT.start {B m k : Nat} {T : TypeId} {bs : List Nat} {w : World} {v : Value} (h : MkT B m k T bs w v) (hk : 0 < k) :
    ∃ ob oo c, v = .slice (some ⟨ob, oo, none⟩) k c ∧ k ≤ c ∧ c ≤ 9223372036854775807 ∧ Tab B w ob oo k bs m (fun _ _ => false) := by
  have := Tab.start h.own h.nd (base' := B) (fun b hb => ⟨(h.blk b hb).1, (h.blk b hb).2.2⟩) (by rw [h.len]; exact hk)
  rw [h.len] at this
  exact this
end Go.Proofs.YtfbfkkaepgcggaaGreat
