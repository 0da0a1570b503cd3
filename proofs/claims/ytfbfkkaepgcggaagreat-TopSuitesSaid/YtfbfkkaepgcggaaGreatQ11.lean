/- The walk of the table of a patch. -/
import Derived.Test.YtfbfkkaepgcggaaGreatQ09
import Derived.Test.YtfbfkkaepgcggaaGreatQ10
namespace Go.Proofs.YtfbfkkaepgcggaaGreat
open Go.RowKit
open Go.Maps (Keyed)

theorem lawI : Keyed Tryz.prog 3 := Go.Maps.int_keyed Tryz.underlying3
theorem keyI {i : Int} (hw : (Lit.int .i64 i).wf = true) : keyOf Tryz.prog 3 (.int .i64 i) = some (.int .i64 i) := Go.Maps.keyOf_int_mk Tryz.underlying3 hw

set_option maxRecDepth 100000 in
set_option maxHeartbeats 4000000 in
theorem read_any (x : List Ed) (v : Value) (w : World) (hx : EditsAt w v x) (hok : edsOK x = true) (hlen : x.length ≤ 4) (R : Ending → World → Prop)
    (hR : ∀ w' n D, Grow w w' → n ≤ 4 → w'.ownsMap Tryz.prog 3 lineR w.heap.size n D → MapsTo D x → R (.returned (.map (some w.heap.size))) w') :
    Calls Tryz.prog 112 #[v] w R := by
  have HX := Lib.hid hx
  have HR := Lib.hid hR
  have HOK := Lib.hid hok
  obtain ⟨a, c, rfl, h1, h2, _⟩ := hx
  have hmm := @run_makeMap Tryz.prog
  clear hR hok
  go_enter Tryz.func112, Tryz.ntmps112
  go_wp2_with fail
  go_loopw [5, 9] (fun _ i wr => ∃ (k : Nat) (D : DataW Ln), k ≤ x.length ∧ i = .int .i64 k ∧ Grow w wr ∧ wr.ownsMap Tryz.prog 3 lineR w.heap.size k D ∧ MapsTo D (x.take k)) (fun _ i _ => x.length - (intOf i).toNat)
  case atStart => exact ⟨0, .map [], by omega, rfl, (Grow.refl _).alloc _, World.ownsMap_made _ _ _ _, by rw [List.take_zero]; exact MapsTo.start⟩
  case round =>
    obtain ⟨k, D, hk, rfl, hg, ho, hm⟩ := hrel
    have HG := Lib.hid hg
    have HO := Lib.hid ho
    have HM := Lib.hid hm
    have hzw := hg.sz
    have hzo := ho.lt
    clear hg ho hm hmm
    by_cases hlt : k < x.length
    · obtain ⟨⟨t, op, d, a', b'⟩, he⟩ : ∃ e, x[k]? = some e := ⟨_, List.getElem?_eq_getElem hlt⟩
      obtain ⟨gb, o, rfl, hgb, y0, y1, y2, y3, y4⟩ := edits_at (HX.out.grow HG.out) he
      obtain ⟨⟨e0, e8⟩, _⟩ := edsOK_at HOK.out he
      have HW := Lib.hid (wf_small e0 e8)
      have HN := Lib.hid (find_take_none HOK.out he)
      have HT := Lib.hid (show x.take (k + 1) = x.take k ++ [⟨t, ⟨op, d, a', b'⟩⟩] by rw [List.take_add_one, he]; rfl)
      have hlt2 : (k : Int) < (x.length : Int) := by omega
      clear he e0 e8
      go_wp2_with (at_mapUpdate; refine wpList_mapUpdate_own _ rfl _ _ _ 130 rfl 3 44 lawI Tryz.underlying130 lineR w.heap.size k D rfl (HO.out.alloc _) (by unfold maxLen; omega) _ _ _ rfl rfl (keyI HW.out) _ [] (lineR_mk ⟨op, d, a', b'⟩) ?_; intro w1 hown1 hgrow1)
      have HO2 := Lib.hid hown1
      have HG2 := Lib.hid (show Grow w w1 from Below.grown (HG.out.alloc _) hgrow1 (by simp; omega) (fun j hj => by cases hj; exact Nat.le_refl _))
      clear hown1 hgrow1
      go_roundw
      case rel => exact ⟨k + 1, _, by omega, by go_num, HG2.out, HO2.out, by rw [HT.out]; exact HM.out.step HO.out.isMap (lawI.key (keyI HW.out)) HN.out⟩
      case measure => simp [intOf]; omega
    · have hkn : k = x.length := by omega
      have HF := Lib.hid (HR.out _ k D HG.out (by omega) HO.out (by have h := HM.out; rw [hkn, List.take_length] at h; exact h))
      clear hkn
      go_wp2_with fail
      exact HF.out
end Go.Proofs.YtfbfkkaepgcggaaGreat
