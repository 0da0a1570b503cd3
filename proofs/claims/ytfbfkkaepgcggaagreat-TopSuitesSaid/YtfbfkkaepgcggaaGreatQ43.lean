/-
The walk of Near.
The walk of Candidates.
-/
import Derived.Test.YtfbfkkaepgcggaaGreatQ29
import Derived.Test.YtfbfkkaepgcggaaGreatQ30
import Derived.Test.YtfbfkkaepgcggaaGreatQ31
import Derived.Deep.RegionHeld3
import Derived.Deep.RegionWith
import Derived.Test.YtfbfkkaepgcggaaGreatQ28
import Derived.Test.YtfbfkkaepgcggaaGreatQ12
namespace Go.Proofs.YtfbfkkaepgcggaaGreat
open Go.RowKit

set_option maxHeartbeats 1000000 in
theorem templates_any (op d a b : Int) (w : World) (hok : vL op d a b = true) (R : Ending → World → Prop)
    (hR : ∀ w' v, Grow w w' → LinesAt w' v (tmpl ⟨op, d, a, b⟩) → R (.returned v) w') :
    Calls Tryz.prog 47 #[.agg #[.int .i64 op, .int .i64 d, .int .i64 a, .int .i64 b]] w R := by
  have hc := ok_cases (l := ⟨op, d, a, b⟩) hok
  simp only at hc
  by_cases h0 : op = 0
  · subst h0
    have HF := Lib.hid (hR _ (.slice none 0 0) ((Grow.refl w).alloc (.cells #[.int .i64 0, .int .i64 d, .int .i64 a, .int .i64 b] 44)) (SlcAt.nil _ _ _))
    clear hR hc hok
    go_enter Tryz.func47, Tryz.ntmps47
    go_wp2_with fail
    exact HF.out
  · by_cases h1 : op = 1
    · exact templates1_any op d a b w h1 hok R hR
    · by_cases h2 : op = 2
      · exact templates2_any op d a b w h2 hok R hR
      · by_cases h7 : op = 7
        · exact templates7_any op d a b w h7 hok R hR
        · exact templatesG_any op d a b w (by omega) hok R hR

end Go.Proofs.YtfbfkkaepgcggaaGreat

namespace Go.Proofs.YtfbfkkaepgcggaaGreat
open Go.RowKit

def lineAt (p : List Ln) (at_ : Int) : Ln := (p[at_.toNat]?).getD ⟨0, 0, 0, 0⟩
end Go.Proofs.YtfbfkkaepgcggaaGreat
