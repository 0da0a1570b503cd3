
import Derived.Test.YtmeejlgnhfkeaaaGreatDoorL04
import Derived.Test.YtmeejlgnhfkeaaaGreatDoorL00
import Derived.Test.YtmeejlgnhfkeaaaGreatDoorL07
namespace Go.Proofs.YtmeejlgnhfkeaaaGreatDoor
open Go.RowKit
set_option maxHeartbeats 2000000 in
theorem r4Passes_any (p : List Ln) (t : Tst) (pv : Value) (w : World) (hp : LinesAt w pv p) (ht : IntsAt w t.v t.xs) (hok : valP p = 0) (htok : t.ok = true) (R : Ending → World → Prop)
  (hR : ∀ w', Grow w w' → R (.returned (.bool (passM p t))) w') :
  Calls Tryz.prog 81 #[pv, .agg #[t.v, .int .i64 t.o, .int .i64 t.wt]] w R := by
 have HP := Lib.hid hp
 have HT := Lib.hid ht
 have HR := Lib.hid hR
 have HOK := Lib.hid hok
 have HTOK := Lib.hid htok
 obtain ⟨q, hq⟩ : ∃ q, passM p t = q := ⟨_, rfl⟩
 rw [hq] at HR
 have HQ := Lib.hid hq
 obtain ⟨pa, pc, rfl, _⟩ := hp
 obtain ⟨sa, sc, hv, _⟩ := ht
 obtain ⟨v, xs, o, wt⟩ := t
 dsimp only at hv
 subst hv
 dsimp only at HT ⊢
 clear hR hq hok htok
 go_enter Tryz.func81, Tryz.ntmps81
 go_wp2_with fail
 have hg := (Grow.refl w).alloc (.cells #[.slice sa xs.length sc, .int .i64 o, .int .i64 wt] 63)
 generalize w.alloc (.cells #[.slice sa xs.length sc, .int .i64 o, .int .i64 wt] 63) = W at hg ⊢
 refine r2Passes_any p ⟨.slice sa xs.length sc, xs, o, wt⟩ _ _ (HP.out.grow hg) (HT.out.grow hg) HOK.out HTOK.out _ ?_
 intro w1 hg1
 rw [HQ.out]
 have HF := Lib.hid (HR.out w1 (hg.trans hg1))
 clear hg hg1
 cases q <;> (go_wp2_with fail; exact HF.out)
end Go.Proofs.YtmeejlgnhfkeaaaGreatDoor
