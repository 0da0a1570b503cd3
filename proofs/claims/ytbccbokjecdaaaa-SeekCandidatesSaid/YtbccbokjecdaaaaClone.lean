/- The walk of the library's Clone on lines. -/
import Derived.Test.YtbccbokjecdaaaaSkF
namespace Go.Proofs.Ytbccbokjecdaaaa
open Go.RowKit

set_option maxHeartbeats 1000000 in
theorem cloneLn_any (xs : List Ln) (v : Value) (w : World) (hx : SlcAt 4 encL w v xs) (hn : xs.length < 10000000000) (R : Ending → World → Prop) (hR : ∀ w' x, Grow w w' → Own 4 encL w.heap.size w' x xs → R (.returned x) w') :
    Calls Try.prog 36 #[v] w R := by
  have hx' := hx
  obtain ⟨a, c, rfl, h1, h2, h3⟩ := hx'
  have HX := Lib.hid hx
  have HR := Lib.hid hR
  clear hx hR
  have heq := fun (W : World) (a : Option Addr) (n c : Nat) => Lib.run_eql_slice_nil (P := Try.prog) W 29 23 a n c 0 0 Try.underlying29
  cases a with
  | none =>
    have hxs : xs = [] := by
      rcases h3 with ⟨h3, _⟩ | ⟨b, o, h3, _⟩
      · exact h3
      · cases h3
    subst hxs
    clear h3
    go_enter Try.func36, Try.ntmps36
    go_wp2_with fail
    exact HR.out _ _ (Grow.refl _) (Own.nil _ _ _ _)
  | some ad =>
    clear h3
    go_enter Try.func36, Try.ntmps36
    go_wp2_with (at_builtin; refine wpList_appAll _ rfl (.tmp 5) (.tmp 6) 29 rfl w.heap.size 23 Try.underlying29 info_ln rfl (by decide) (by decide) encL encL_len encL_one _ [] rfl (ownsRow_empty w 4 _ _ _ (Nat.le_refl _)) _ xs rfl (HX.out.grow ((Grow.refl w).alloc _)) (by simp; omega) (by simp) ?_; intro v1 w1 hown1 hgr1)
    exact HR.out _ _ (grown_below (ownsRow_empty w 4 23 encL _ (Nat.le_refl _)) hgr1 (Nat.le_refl _) (by simp) ((Grow.refl w).alloc _)) ⟨_, hown1⟩

end Go.Proofs.Ytbccbokjecdaaaa
