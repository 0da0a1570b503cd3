/- The law BenchMerges: what two books are together. -/
import Derived.Test.YtihdpbfhkddpcaaGreatDoorG46
import Derived.Test.YtihdpbfhkddpcaaGreatDoorG47
namespace Go.Proofs.YtihdpbfhkddpcaaGreatDoor
open Go.RowKit

set_option maxRecDepth 100000 in
set_option maxHeartbeats 4000000 in
theorem benchMerges_any (a b : ByteArray) (w : World) (hg : Glob w) (R : Ending → World → Prop) (hR : ∀ w', Grow w w' → R (.returned (.bool true)) w') :
    Calls Tryz.prog 6 #[.string a, .string b] w R := by
  have HR := Lib.hid hR
  have HG := Lib.hid hg
  clear hR hg
  go_enter Tryz.func6, Tryz.ntmps6
  by_cases ha : 20000 < a.size
  · have haz : decide ((a.size : Int) > 20000) = true := by rw [decide_eq_true_eq]; omega
    go_wp2_with fail
    refine sane_any _ HG.out _ ?_
    intro w1 hg1
    have HF := Lib.hid (HR.out w1 hg1)
    clear hg1
    go_wp2_with fail
    exact HF.out
  have haz : decide ((a.size : Int) > 20000) = false := by rw [decide_eq_false_iff_not]; omega
  by_cases hb : 20000 < b.size
  · have hbz : decide ((b.size : Int) > 20000) = true := by rw [decide_eq_true_eq]; omega
    go_wp2_with fail
    refine sane_any _ HG.out _ ?_
    intro w1 hg1
    have HF := Lib.hid (HR.out w1 hg1)
    clear hg1
    go_wp2_with fail
    exact HF.out
  have hbz : decide ((b.size : Int) > 20000) = false := by rw [decide_eq_false_iff_not]; omega
  obtain ⟨M, hM⟩ : ∃ M, mrgB a b = M := ⟨_, rfl⟩
  obtain ⟨x, n, e⟩ := M
  have HM := Lib.hid hM
  clear hM
  go_wp2_with fail
  refine Merge_any a b (by omega) (by omega) _ HG.out _ ?_
  intro w1 hg1
  rw [HM.out]
  dsimp only
  have HG1 := Lib.hid hg1
  clear hg1
  go_wp2_with fail
  refine rMerge_any a b (by omega) (by omega) _ (HG.out.grow HG1.out) _ ?_
  intro w2 hg2
  rw [HM.out]
  dsimp only
  have HG2 := Lib.hid (HG1.out.trans hg2)
  clear hg2
  go_wp2_with fail
  refine sane_any _ (HG.out.grow HG2.out) _ ?_
  intro w3 hg3
  have HF := Lib.hid (HR.out w3 (HG2.out.trans hg3))
  clear hg3
  go_wp2_with fail
  exact HF.out
end Go.Proofs.YtihdpbfhkddpcaaGreatDoor
