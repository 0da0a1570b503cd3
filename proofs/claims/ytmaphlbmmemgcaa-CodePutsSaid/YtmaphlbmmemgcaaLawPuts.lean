/- The walk of the statement CodePuts. -/
import Derived.Test.YtmaphlbmmemgcaaLawA
import Derived.Test.YtmaphlbmmemgcaaPut
import Derived.Test.YtmaphlbmmemgcaaSame
namespace Go.Proofs.Ytmaphlbmmemgcaa
open Go.RowKit

set_option maxRecDepth 100000 in
set_option maxHeartbeats 4000000 in
theorem codePuts_any (p : List Ln) (at_ op d a b : Int) (w : World) (v : Value) (hp : LinesAt w v p) (R : Ending → World → Prop) (hR : ∀ w', Grow w w' → R (.returned (.bool true)) w') :
    Calls Try.prog 6 #[v, .int .i64 at_, .agg #[.int .i64 op, .int .i64 d, .int .i64 a, .int .i64 b]] w R := by
  have HR := Lib.hid hR
  have HP := Lib.hid hp
  obtain ⟨pa, pc, rfl, p1, p2, _⟩ := hp
  clear hR
  by_cases hl : 100 < p.length
  · have hd : decide (100 < p.length) = true := decide_eq_true hl
    have HD := Lib.hid hd
    clear hd hl
    go_enter Try.func6, Try.ntmps6
    go_wp2_with fail
    refine long_any p _ _ (HP.out.grow ((Grow.refl w).alloc _)) _ ?_
    rw [HD.out]
    go_wp2_with fail
    refine known_any _ _ ?_
    intro w1 hg1
    have HF := Lib.hid (HR.out _ (((Grow.refl w).alloc _).trans hg1))
    clear hg1
    go_wp2_with fail
    exact HF.out
  · have hd : decide (100 < p.length) = false := decide_eq_false hl
    have HD := Lib.hid hd
    clear hd
    obtain ⟨e, he⟩ : ∃ e, putE p at_ ⟨op, d, a, b⟩ = e := ⟨_, rfl⟩
    obtain ⟨m, hm⟩ : ∃ m, putM p at_ ⟨op, d, a, b⟩ = m := ⟨_, rfl⟩
    have HE := Lib.hid he
    have HM := Lib.hid hm
    clear he hm
    have t3 : (e != e) = false := by simp
    go_enter Try.func6, Try.ntmps6
    go_wp2_with fail
    refine long_any p _ _ (HP.out.grow ((Grow.refl w).alloc _)) _ ?_
    rw [HD.out]
    go_wp2_with fail
    refine rcopy_any p _ _ (HP.out.grow ((Grow.refl w).alloc _)) (by omega) _ ?_
    intro w1 x1 hg1 ho1
    have hb1 := hg1.blk (heap_alloc_new w (.cells #[.int .i64 op, .int .i64 d, .int .i64 a, .int .i64 b] 37))
    obtain ⟨e0, e1, e2, e3⟩ := box_cells hb1
    have hz1 := lt_of_block hb1
    have HG1 := Lib.hid (((Grow.refl w).alloc _).trans hg1)
    have HB1 := Lib.hid hb1
    have hs1 := ho1.slc encL_len
    have HX1 := Lib.hid hs1
    obtain ⟨a1, c1, rfl, _, _, _⟩ := hs1
    clear hg1 hb1 ho1
    go_wp2_with fail
    refine Put_any p at_ op d a b _ _ HX1.out _ ?_
    intro w2 x2 hg2 ho2
    rw [HM.out] at ho2
    rw [HE.out]
    have hb2 := hg2.blk HB1.out
    clear e0 e1 e2 e3 hz1
    obtain ⟨e0, e1, e2, e3⟩ := box_cells hb2
    have hz1 := lt_of_block hb2
    have HG12 := Lib.hid hg2
    have HO2 := Lib.hid ho2
    obtain ⟨a2, c2, rfl, _, _, _⟩ := ho2.slc encL_len
    clear hg2 hb2 ho2
    go_wp2_with fail
    refine rPut_any p at_ op d a b _ _ (HP.out.grow (HG1.out.trans HG12.out)) _ ?_
    intro w3 x3 hg3 ho3
    rw [HM.out] at ho3
    rw [HE.out]
    have hs3 := ho3.slc encL_len
    have HX3 := Lib.hid hs3
    obtain ⟨a3, c3, rfl, _, _, _⟩ := hs3
    have HO3 := Lib.hid (HO2.out.grow hg3)
    have HG13 := Lib.hid (HG12.out.trans hg3)
    clear hg3 ho3 HO2
    go_wp2_with fail
    refine rsame_any m m _ _ _ (HO3.out.slc encL_len) HX3.out _ ?_
    intro w4 hg4
    rw [show decide (m = m) = true from decide_eq_true rfl]
    have HO4 := Lib.hid (HO3.out.grow hg4)
    have HG14 := Lib.hid (HG13.out.trans hg4)
    clear hg4 HO3
    go_wp2_with fail
    go_loopw [12] (fun i wr => ∃ k : Nat, k ≤ m.length ∧ i = .int .i64 k ∧ Grow w1 wr ∧ (k < m.length → ∃ e g cap p', Value.slice a2 m.length c2 = .slice (some ⟨g, 0, none⟩) m.length cap ∧ w1.heap.size ≤ g ∧ g < wr.heap.size ∧ p'.length = m.length ∧ wr.ownsRow w1.heap.size e 4 (.slice (some ⟨g, 0, none⟩) m.length cap) m.length (List.flatMap encL p'))) (fun i _ => m.length - (intOf i).toNat)
    case atStart =>
      refine ⟨0, Nat.zero_le _, rfl, HG14.out, fun h0 => ?_⟩
      obtain ⟨e, g, cap, hv, hbg, hgl, ho⟩ := own_slice HO4.out h0
      exact ⟨e, g, cap, m, hv, hbg, hgl, rfl, ho⟩
    case round =>
      obtain ⟨k, hk, rfl, hg, hrow⟩ := hrel
      by_cases hlt : k < m.length
      · obtain ⟨e', g, cap, p', hv, hbg, hgl, hpl, ho⟩ := hrow hlt
        obtain ⟨rfl, rfl⟩ : a2 = some ⟨g, 0, none⟩ ∧ c2 = cap := by simpa using hv
        rw [← hpl] at ho
        have hk' : k < p'.length := by omega
        obtain ⟨l0, hl0⟩ : ∃ l, p'[k]? = some l := ⟨_, List.getElem?_eq_getElem hk'⟩
        obtain ⟨k0, k1, k2, k3⟩ := own_cells ho k l0 hl0
        have z0 := ownsRow_free ho (k * 4)
        have z1 := ownsRow_free ho (k * 4 + 1)
        have z2 := ownsRow_free ho (k * 4 + 2)
        have z3 := ownsRow_free ho (k * 4 + 3)
        have hs := owns_storeL ho k hk' ⟨-1, 0, 0, 0⟩
        have HS := Lib.hid hs
        have HPL := Lib.hid hpl
        have HG := Lib.hid hg
        clear ho hs hrow hl0 hv hpl hk' hg
        go_wp2_with fail
        go_roundw
        case rel =>
          have hs := HS.out
          rw [List.length_set, HPL.out] at hs
          refine ⟨k + 1, by omega, by go_num, ?_, fun _ => ⟨e', g, c2, p'.set k ⟨-1, 0, 0, 0⟩, rfl, hbg, ?_, by rw [List.length_set]; exact HPL.out, hs⟩⟩
          · exact below_storeL (i := k * 4) ⟨-1, 0, 0, 0⟩ HG.out hbg
          · simp only [World.size_setCell]; exact hgl
        case measure => simp [intOf]; omega
      · have HG := Lib.hid hg
        clear hrow hg
        go_wp2_with fail
        refine rsame_any p p _ _ _ (HX1.out.grow HG.out) (HP.out.grow (HG1.out.trans HG.out)) _ ?_
        intro w6 hg6
        rw [show decide (p = p) = true from decide_eq_true rfl]
        have HG6 := Lib.hid ((HG1.out.trans HG.out).trans hg6)
        clear hg6
        go_wp2_with fail
        refine known_any _ _ ?_
        intro w7 hg7
        have HF := Lib.hid (HR.out _ (HG6.out.trans hg7))
        clear hg7
        go_wp2_with fail
        exact HF.out
end Go.Proofs.Ytmaphlbmmemgcaa
