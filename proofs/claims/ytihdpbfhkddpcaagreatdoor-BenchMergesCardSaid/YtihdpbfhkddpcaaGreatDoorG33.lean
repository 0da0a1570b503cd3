/- What the walks ask of the library's own variables, and that it stays. -/
import Derived.Test.YtihdpbfhkddpcaaGreatDoorG25
import Derived.Test.YtihdpbfhkddpcaaGreatDoorG12
namespace Go.Proofs.YtihdpbfhkddpcaaGreatDoor
open Go.RowKit

structure Glob (w : World) : Prop where
  er : ErrT w
  ml : ∃ m, w.cell? ⟨1, 0, none⟩ = some (.int .i64 m)
  sx : ∃ te pe, w.cell? ⟨3, 0, none⟩ = some (.iface te pe)
  rg : ∃ te pe, w.cell? ⟨4, 0, none⟩ = some (.iface te pe)
  tb : Lib.TabIs Tryz.prog w "internal/strconv.uint64pow10" .u64 Lib.pow10Tab
theorem g_tab : Tryz.prog.globalNamed "internal/strconv.uint64pow10" = some 2 := by kernel_rfl
theorem Glob.same {w w' : World} (h : Glob w) (hs : ∀ k o, k ≤ 4 → w.heap[k]? = some o → w'.heap[k]? = some o) : Glob w' := by
  have hc : ∀ k v, k ≤ 4 → w.cell? ⟨k, 0, none⟩ = some v → w'.cell? ⟨k, 0, none⟩ = some v := by
    intro k v hk hv
    have hlt := World.block_lt_of_cell? _ _ hv
    obtain ⟨o, ho⟩ : ∃ o, w.heap[k]? = some o := ⟨_, Array.getElem?_eq_getElem hlt⟩
    rw [World.cell?_of_block (w := w) (w' := w') (a := ⟨k, 0, none⟩) ((hs k o hk ho).trans ho.symm)]
    exact hv
  refine ⟨hc _ _ (by decide) h.er, ?_, ?_, ?_, ?_⟩
  · obtain ⟨m, hm⟩ := h.ml; exact ⟨m, hc _ _ (by decide) hm⟩
  · obtain ⟨a, b, hm⟩ := h.sx; exact ⟨a, b, hc _ _ (by decide) hm⟩
  · obtain ⟨a, b, hm⟩ := h.rg; exact ⟨a, b, hc _ _ (by decide) hm⟩
  · have ht := h.tb
    unfold Lib.TabIs World.var? at ht ⊢
    rw [g_tab] at ht ⊢
    simp only [Option.bind_some] at ht ⊢
    cases hb : w.heap[2]? with
    | none => rw [hb] at ht; cases ht
    | some o => rw [hb] at ht; rw [hs _ _ (by decide) hb]; exact ht
theorem Glob.grow {w w' : World} (h : Glob w) (g : Grow w w') : Glob w' := h.same fun _ _ _ ho => g.blk ho
theorem Glob.size {w : World} (h : Glob w) : 4 < w.heap.size := by
  obtain ⟨_, _, hm⟩ := h.rg
  exact World.block_lt_of_cell? _ _ hm

/-! ### The library's functions on texts -/
theorem grow_of_grown {w w' : World} {k : Nat} {os : Array Obj} (h : w' = Go.Sort.grow (w.drewN k) os) : Grow w w' := by
  subst h
  refine ⟨rfl, rfl, rfl, by simp [Go.Sort.grow, World.drewN], fun i hi => ?_⟩
  exact Go.Sort.heap_grow_old _ _ (by simpa [World.drewN] using hi)
theorem grow_freeze {w w' : World} (g : Grow w w') {a : Addr} (ha : w.heap.size ≤ a.block) (n : Nat) : Grow w (w'.freeze a n) := by
  unfold World.freeze
  by_cases hn : n = 0
  · rw [if_pos hn]; exact g
  · rw [if_neg hn]
    refine ⟨g.os, g.tape, g.output, by simpa using g.sz, fun k hk => ?_⟩
    show (w'.heap.modify a.block _)[k]? = _
    rw [Array.getElem?_modify, if_neg (by omega)]
    exact g.heap hk
theorem itoa_any (n : Int) (h0 : -9223372036854775808 ≤ n) (h1 : n ≤ 9223372036854775807) (w : World) (hg : Glob w) (R : Ending → World → Prop) (hR : ∀ w', Grow w w' → R (.returned (.string ⟨(Lib.itoa n).toArray⟩)) w') :
    Calls Tryz.prog 44 #[.int .i64 n] w R := by
  refine (Tryz.strconv_Itoa n h0 h1 w hg.tb).mono ?_
  rintro e w' ⟨rfl, k, os, hw⟩
  exact hR w' (grow_of_grown hw)
theorem cut_any (s sep : ByteArray) (hs : s.size < 4294967281) (w : World) (hg : Glob w) (R : Ending → World → Prop) (hR : ∀ w', Grow w w' → R (.returned (.tuple #[.string ⟨(Lib.cut s.data.toList sep.data.toList).1.toArray⟩, .string ⟨(Lib.cut s.data.toList sep.data.toList).2.1.toArray⟩, .bool (Lib.cut s.data.toList sep.data.toList).2.2])) w') :
    Calls Tryz.prog 40 #[.string s, .string sep] w R := by
  obtain ⟨m, hm⟩ := hg.ml
  refine (Tryz.strings_Cut s sep m w hs hm).mono ?_
  rintro e w' ⟨rfl, n, rfl⟩
  exact hR _ ((Grow.refl w).drewN n)
theorem atoi_any (s : ByteArray) (hs : s.size ≤ 281474976710656) (w : World) (hg : Glob w) (R : Ending → World → Prop)
    (hok : ∀ w' v, Grow w w' → Lib.atoiAll s.data.toList = .ok v → -9223372036854775808 ≤ v → v ≤ 9223372036854775807 → R (.returned (.tuple #[.int .i64 v, .nilIface])) w')
    (hno : ∀ w' n te pe, Grow w w' → (∀ v, Lib.atoiAll s.data.toList ≠ .ok v) → R (.returned (.tuple #[.int .i64 n, .iface te pe])) w') :
    Calls Tryz.prog 93 #[.string s] w R := by
  rcases h : Lib.atoiAll s.data.toList with v | _ | _
  · obtain ⟨b0, b1⟩ := Lib.atoiAll_bounds h
    refine (Tryz.strconv_Atoi_ok s (by omega) v h w).mono ?_
    rintro e w' ⟨rfl, hw⟩
    refine hok w' v ?_ h b0 b1
    rcases hw with rfl | ⟨t, rfl⟩
    · exact Grow.refl _
    · unfold Lib.bytesWorld
      exact grow_freeze ((Grow.refl w).drew.alloc _) (Nat.le_refl _) _
  · obtain ⟨te, pe, hv⟩ := hg.sx
    refine (Any.strconv_Atoi_syntax Tryz.laysC172 s hs h _ w hv (.inr ⟨te, pe, rfl⟩)).mono ?_
    rintro e w' ⟨N, rfl, _, _, hb⟩
    exact hno w' _ _ _ hb (by rw [h]; intro v e; cases e)
  · obtain ⟨te, pe, hv⟩ := hg.rg
    refine (Tryz.strconv_Atoi_range s hs h _ w hv (.inr ⟨te, pe, rfl⟩)).mono ?_
    rintro e w' ⟨N, rfl, _, _, hb⟩
    exact hno w' _ _ _ hb (by rw [h]; intro v e; cases e)
end Go.Proofs.YtihdpbfhkddpcaaGreatDoor
