
import Derived.Test.YtmeejlgnhfkeaaaGreatDoorL24
import Derived.Test.YtmeejlgnhfkeaaaGreatDoorL37
import Derived.Test.YtmeejlgnhfkeaaaGreatDoorL05
import Derived.Lib.ItoaLen
import Derived.Lib.IndexAny
namespace Go.Proofs.YtmeejlgnhfkeaaaGreatDoor
open Go.RowKit
def tb (l : List UInt8) : ByteArray := ⟨l.toArray⟩
theorem tb_data (l : List UInt8) : (tb l).data.toList = l := by simp [tb]
theorem tb_of (t : ByteArray) : tb t.data.toList = t := by cases t; simp [tb]
theorem tb_size (l : List UInt8) : (tb l).size = l.length := by rw [tx_len, tb_data]
theorem tb_app (a b : List UInt8) : tb a ++ tb b = tb (a ++ b) := by
 apply tx_eq
 rw [tb_data]
 simp [tb, ByteArray.data_append]
theorem line_tb (q : Int) (t : ByteArray) : (⟨(Lib.itoa q).toArray⟩ : ByteArray) ++ ⟨#[32]⟩ ++ t ++ ⟨#[10]⟩ = tb (Bk.lineL q t.data.toList) := by
 have h1 : (⟨(Lib.itoa q).toArray⟩ : ByteArray) = tb (Lib.itoa q) := rfl
 have h2 : (⟨#[32]⟩ : ByteArray) = tb [32] := rfl
 have h3 : (⟨#[10]⟩ : ByteArray) = tb [10] := rfl
 have h4 := tb_of t
 rw [h1, h2, h3, ← h4, tb_app, tb_app, tb_app, tb_data]
 unfold Bk.lineL
 simp
set_option maxHeartbeats 2000000 in
theorem line_any (b : Int) (t : ByteArray) (ht : t.size ≤ 1000000000000) (w : World) (hg : Glob w) (R : Ending → World → Prop)
  (hR : ∀ w', Grow w w' → R (.returned (.tuple #[.string (tb (Bk.lineL (Bk.sumS b t.data.toList) t.data.toList)), .int .i64 (Bk.sumS b t.data.toList)])) w') :
  Calls Tryz.prog 58 #[.int .i64 b, .string t] w R := by
 have HR := Lib.hid hR
 have HG := Lib.hid hg
 obtain ⟨q, hq⟩ : ∃ q, Bk.sumS b t.data.toList = q := ⟨_, rfl⟩
 obtain ⟨hq0, hq1⟩ := Bk.sumS_bd b t.data.toList
 rw [hq] at hq0 hq1 HR
 have HQ := Lib.hid hq
 clear hR hg hq
 go_enter Tryz.func58, Tryz.ntmps58
 go_wp2_with fail
 refine Sum_any b t _ (by omega) _ ?_
 intro w1 hg1
 rw [HQ.out]
 have HG1 := Lib.hid hg1
 clear hg1
 go_wp2_with fail
 refine itoa_any q (by omega) (by omega) _ (HG.out.grow HG1.out) _ ?_
 intro w2 hg2
 have HF := Lib.hid (HR.out w2 (HG1.out.trans hg2))
 have hil := Lib.itoa_length_le q (by omega) (by omega)
 clear hg2
 have hf := HF.out
 rw [← line_tb] at hf
 have HF2 := Lib.hid hf
 clear hf
 go_wp2_with fail
 exact HF2.out
set_option maxHeartbeats 2000000 in
theorem isText_any (t : ByteArray) (ht : t.size ≤ 1000000000000) (w : World) (R : Ending → World → Prop) (hR : ∀ w', Grow w w' → R (.returned (.bool (Bk.okT t.data.toList))) w') :
  Calls Tryz.prog 57 #[.string t] w R := by
 have hv : Bk.okT t.data.toList = (decide (1 ≤ t.size) && decide (t.size ≤ 30) && !decide (0 ≤ Lib.indexByte t.data.toList 10)) := by
  unfold Bk.okT
  rw [← tx_len, Lib.contains_iff_indexByte]
 rw [hv] at hR
 have HR := Lib.hid hR
 clear hR hv
 by_cases h1 : 1 ≤ t.size
 rotate_left
 ·have hf := HR.out w (Grow.refl _)
  rw [decide_eq_false h1] at hf
  have HF := Lib.hid hf
  have h1z : decide ((1 : Int) ≤ (t.size : Int)) = false := by rw [decide_eq_false_iff_not]; omega
  clear hf
  go_enter Tryz.func57, Tryz.ntmps57
  go_wp2_with fail
  exact HF.out
 have h1z : decide ((1 : Int) ≤ (t.size : Int)) = true := by rw [decide_eq_true_eq]; omega
 rw [decide_eq_true h1] at HR
 by_cases h2 : t.size ≤ 30
 rotate_left
 ·have hf := HR.out w (Grow.refl _)
  rw [decide_eq_false h2] at hf
  have HF := Lib.hid hf
  have h2z : decide ((t.size : Int) ≤ (30 : Int)) = false := by rw [decide_eq_false_iff_not]; omega
  clear hf
  go_enter Tryz.func57, Tryz.ntmps57
  go_wp2_with fail
  exact HF.out
 have h2z : decide ((t.size : Int) ≤ (30 : Int)) = true := by rw [decide_eq_true_eq]; omega
 rw [decide_eq_true h2] at HR
 have hf := HR.out w (Grow.refl _)
 obtain ⟨q, hq⟩ : ∃ q, decide (0 ≤ Lib.indexByte t.data.toList 10) = q := ⟨_, rfl⟩
 rw [hq] at hf
 have HQ := Lib.hid hq
 have HF := Lib.hid hf
 clear hf hq HR
 go_enter Tryz.func57, Tryz.ntmps57
 go_wp2_with fail
 refine (Tryz.strings_Contains_one t 10 _).mono ?_
 rintro e w' ⟨rfl, rfl⟩
 rw [HQ.out]
 go_wp2_with fail
 exact HF.out
end Go.Proofs.YtmeejlgnhfkeaaaGreatDoor
