/- The walks of the document's answer to layer 1: what a line makes of a state. -/
import Derived.Test.YtmaphlbmmemgcaaRefC
import Derived.Test.YtmaphlbmmemgcaaPlR
namespace Go.Proofs.Ytmaphlbmmemgcaa
open Go.RowKit

theorem rcut_any (n : Int) (w : World) (R : Ending → World → Prop) (hR : R (.returned (.int .i64 (cut n))) w) : Calls Try.prog 109 #[.int .i64 n] w R := by
  by_cases h1 : n < -999
  · rw [show cut n = -999 by unfold cut; omega] at hR
    go_enter Try.func109, Try.ntmps109
    go_wp2_with fail
    exact hR
  · by_cases h2 : 999 < n
    · rw [show cut n = 999 by unfold cut; omega] at hR
      go_enter Try.func109, Try.ntmps109
      go_wp2_with fail
      exact hR
    · rw [show cut n = n by unfold cut; omega] at hR
      go_enter Try.func109, Try.ntmps109
      go_wp2_with fail
      exact hR

theorem toL_get (s : St) (r : Int) (h0 : 0 ≤ r) (h3 : r ≤ 3) : s.toL[r.toNat]? = some (s.get r) := by
  have : r = 0 ∨ r = 1 ∨ r = 2 ∨ r = 3 := by omega
  rcases this with rfl | rfl | rfl | rfl <;> rfl
theorem toL_set (s : St) (r n : Int) (h0 : 0 ≤ r) (h3 : r ≤ 3) : (s.set r n).toL = s.toL.set r.toNat n := by
  have : r = 0 ∨ r = 1 ∨ r = 2 ∨ r = 3 := by omega
  rcases this with rfl | rfl | rfl | rfl <;> rfl
theorem cut_id {n : Int} (h0 : -999 ≤ n) (h1 : n ≤ 999) : cut n = n := by unfold cut; omega

set_option maxHeartbeats 4000000 in
theorem rvalue_any (op d a b : Int) (s : St) (v : Value) (w : World) (hv : vL op d a b = true) (hw : wrB op = true) (hs : IntsAt w v s.toL) (hf : s.fine) (R : Ending → World → Prop)
    (hR : ∀ w', Grow w w' → R (.returned (.int .i64 (cut (opV op a (s.get a) (s.get b))))) w') :
    Calls Try.prog 93 #[.agg #[.int .i64 op, .int .i64 d, .int .i64 a, .int .i64 b], v] w R := by
  have HR := Lib.hid hR
  clear hR
  obtain ⟨ao, c, rfl, h1, h2, h3⟩ := hs
  have hlen : s.toL.length = 4 := rfl
  rw [hlen] at h1 ⊢
  obtain ⟨bb, o, rfl, hb, hc⟩ := h3.resolve_left (by intro h; have := h.1; simp [St.toL] at this)
  clear h3
  obtain ⟨w1, w6⟩ := inB_true.1 (show inB op 1 6 = true from hw)
  by_cases g1 : op = 1
  · subst g1
    have ha : -9 ≤ a ∧ a ≤ 9 := by simp [vL, inB_def] at hv; omega
    have e : cut (opV 1 a (s.get a) (s.get b)) = a := by rw [show opV 1 a (s.get a) (s.get b) = a from rfl, cut_id (by omega) (by omega)]
    rw [e] at HR
    clear e hc
    go_enter Try.func93, Try.ntmps93
    go_wp2_with fail
    exact HR.out _ ((Grow.refl w).alloc _)
  · obtain ⟨o2, o3⟩ := ok_args hv
    obtain ⟨a0, a3⟩ := o2 (by omega)
    have hbz : 0 ≤ b ∧ b ≤ 3 := by
      by_cases g2 : op = 2
      · subst g2; simp [vL] at hv; omega
      · exact o3 (by omega)
    obtain ⟨b0, b3⟩ := hbz
    have ea := ints_cell hc a.toNat _ (toL_get s a a0 a3)
    have eb := ints_cell hc b.toNat _ (toL_get s b b0 b3)
    obtain ⟨fa0, fa1⟩ := St.get_fine hf a
    obtain ⟨fb0, fb1⟩ := St.get_fine hf b
    have a4 : a < 4 := by omega
    have b4 : b < 4 := by omega
    clear hc o2 o3
    generalize s.get a = x at HR ea fa0 fa1
    generalize s.get b = y at HR eb fb0 fb1
    have hop : op = 2 ∨ op = 3 ∨ op = 4 ∨ op = 5 ∨ op = 6 := by omega
    rcases hop with rfl | rfl | rfl | rfl | rfl
    · have e : opV 2 a x y = x := rfl
      rw [e] at HR
      have HF := Lib.hid (HR.out _ ((Grow.refl w).alloc (.cells #[.int .i64 2, .int .i64 d, .int .i64 a, .int .i64 b] 37)))
      clear e HR
      go_enter Try.func93, Try.ntmps93
      go_wp2_with fail
      refine rcut_any _ _ _ ?_
      generalize cut x = z at HF ⊢
      go_wp2_with fail
      exact HF.out
    · have e : opV 3 a x y = x + y := rfl
      rw [e] at HR
      have HF := Lib.hid (HR.out _ ((Grow.refl w).alloc (.cells #[.int .i64 3, .int .i64 d, .int .i64 a, .int .i64 b] 37)))
      clear e HR
      go_enter Try.func93, Try.ntmps93
      go_wp2_with fail
      refine rcut_any _ _ _ ?_
      generalize cut (x + y) = z at HF ⊢
      go_wp2_with fail
      exact HF.out
    · have e : opV 4 a x y = x - y := rfl
      rw [e] at HR
      have HF := Lib.hid (HR.out _ ((Grow.refl w).alloc (.cells #[.int .i64 4, .int .i64 d, .int .i64 a, .int .i64 b] 37)))
      clear e HR
      go_enter Try.func93, Try.ntmps93
      go_wp2_with fail
      refine rcut_any _ _ _ ?_
      generalize cut (x - y) = z at HF ⊢
      go_wp2_with fail
      exact HF.out
    · have HF := Lib.hid (HR.out _ ((Grow.refl w).alloc (.cells #[.int .i64 5, .int .i64 d, .int .i64 a, .int .i64 b] 37)))
      clear HR
      by_cases hxy : y < x
      · have e : opV 5 a x y = y := by show min x y = y; omega
        rw [e] at HF
        clear e
        go_enter Try.func93, Try.ntmps93
        go_wp2_with fail
        refine rcut_any _ _ _ ?_
        generalize cut y = z at HF ⊢
        go_wp2_with fail
        exact HF.out
      · have e : opV 5 a x y = x := by show min x y = x; omega
        rw [e] at HF
        clear e
        go_enter Try.func93, Try.ntmps93
        go_wp2_with fail
        refine rcut_any _ _ _ ?_
        generalize cut x = z at HF ⊢
        go_wp2_with fail
        exact HF.out
    · have HF := Lib.hid (HR.out _ ((Grow.refl w).alloc (.cells #[.int .i64 6, .int .i64 d, .int .i64 a, .int .i64 b] 37)))
      clear HR
      by_cases hxy : x < y
      · have e : opV 6 a x y = y := by show max x y = y; omega
        rw [e] at HF
        clear e
        go_enter Try.func93, Try.ntmps93
        go_wp2_with fail
        refine rcut_any _ _ _ ?_
        generalize cut y = z at HF ⊢
        go_wp2_with fail
        exact HF.out
      · have e : opV 6 a x y = x := by show max x y = x; omega
        rw [e] at HF
        clear e
        go_enter Try.func93, Try.ntmps93
        go_wp2_with fail
        refine rcut_any _ _ _ ?_
        generalize cut x = z at HF ⊢
        go_wp2_with fail
        exact HF.out
end Go.Proofs.Ytmaphlbmmemgcaa
