/- The law BenchReads: the orders and the rest of any text, and its sum. -/
import Derived.Test.YtihdpbfhkddpcaaGreatDoorG46
import Derived.Test.YtihdpbfhkddpcaaGreatDoorG47
namespace Go.Proofs.YtihdpbfhkddpcaaGreatDoor
open Go.RowKit

set_option maxRecDepth 100000 in
set_option maxHeartbeats 4000000 in
theorem benchReads_any (a : ByteArray) (n : Int) (w : World) (hg : Glob w) (R : Ending → World → Prop) (hR : ∀ w', Grow w w' → R (.returned (.bool true)) w') :
    Calls Tryz.prog 4 #[.string a, .int .i64 n] w R := by
  have HR := Lib.hid hR
  have HG := Lib.hid hg
  clear hR hg
  go_enter Tryz.func4, Tryz.ntmps4
  by_cases ha : 20000 < a.size
  · have haz : decide ((a.size : Int) > 20000) = true := by rw [decide_eq_true_eq]; omega
    go_wp2_with fail
    refine sane_any _ HG.out _ ?_
    intro w1 hg1
    have HF := Lib.hid (HR.out w1 hg1)
    clear hg1
    go_wp2_with fail
    exact HF.out
  have haz : decide ((a.size : Int) > 20000) = false := by rw [decide_eq_false_iff_not]; omega
  obtain ⟨M, hM⟩ : ∃ M, Bk.readL 80 0 a.data.toList = M := ⟨_, rfl⟩
  obtain ⟨l, r⟩ := M
  have HM := Lib.hid hM
  clear hM
  go_wp2_with fail
  refine Read_any a (by omega) _ HG.out _ ?_
  intro w1 v1 hg1 ho1
  rw [HM.out] at ho1 ⊢
  dsimp only at ho1 ⊢
  have HT1 := Lib.hid (slc_of_owns encTx_len ho1)
  have HG1 := Lib.hid hg1
  clear hg1 ho1
  go_wp2_with fail
  refine rRead_any a (by omega) _ (HG.out.grow HG1.out) _ ?_
  intro w2 v2 hg2 ho2
  rw [HM.out] at ho2 ⊢
  dsimp only at ho2 ⊢
  have HT2 := Lib.hid (slc_of_owns encTx_len ho2)
  have HT1b := Lib.hid (HT1.out.grow hg2)
  have HG2 := Lib.hid (HG1.out.trans hg2)
  clear hg2 ho2
  go_wp2_with fail
  refine rSameTexts_any (l.map tb) (l.map tb) v1 v2 _ HT1b.out HT2.out _ ?_
  intro w3 hg3
  rw [decide_eq_true rfl]
  have HG3 := Lib.hid (HG2.out.trans hg3)
  clear hg3
  go_wp2_with fail
  refine Sum_any n a _ (by omega) _ ?_
  intro w4 hg4
  have HG4 := Lib.hid (HG3.out.trans hg4)
  clear hg4
  go_wp2_with fail
  refine rSum_any n a _ (by omega) _ ?_
  intro w5 hg5
  have HG5 := Lib.hid (HG4.out.trans hg5)
  clear hg5
  obtain ⟨q, hq⟩ : ∃ q, Bk.sumS n a.data.toList = q := ⟨_, rfl⟩
  rw [hq]
  clear hq
  go_wp2_with fail
  refine sane_any _ (HG.out.grow HG5.out) _ ?_
  intro w6 hg6
  have HF := Lib.hid (HR.out w6 (HG5.out.trans hg6))
  clear hg6
  go_wp2_with fail
  exact HF.out
end Go.Proofs.YtihdpbfhkddpcaaGreatDoor
