/- The walks of patch.fields and patch.Size: in how many fields a patch changes a program. -/
import Derived.Test.YtfbfkkaepgcggaaGreatQ13
import Derived.Test.YtfbfkkaepgcggaaGreatQ12
import Derived.Test.YtfbfkkaepgcggaaGreatQ24
namespace Go.Proofs.YtfbfkkaepgcggaaGreat
open Go.RowKit

theorem keep9 {w2 X Y : World} {a0 a1 a2 a3 a4 a5 a6 a7 a8 : Addr} {v0 v1 v2 v3 v4 v5 v6 v7 v8 : Value} (g : Grow X Y)
    (h : X.cell? a0 = some v0 ∧ X.cell? a1 = some v1 ∧ X.cell? a2 = some v2 ∧ X.cell? a3 = some v3 ∧ X.cell? a4 = some v4 ∧ X.cell? a5 = some v5 ∧ X.cell? a6 = some v6 ∧ X.cell? a7 = some v7 ∧ X.cell? a8 = some v8 ∧ Grow w2 X) :
    Y.cell? a0 = some v0 ∧ Y.cell? a1 = some v1 ∧ Y.cell? a2 = some v2 ∧ Y.cell? a3 = some v3 ∧ Y.cell? a4 = some v4 ∧ Y.cell? a5 = some v5 ∧ Y.cell? a6 = some v6 ∧ Y.cell? a7 = some v7 ∧ Y.cell? a8 = some v8 ∧ Grow w2 Y :=
  ⟨g.cell h.1, g.cell h.2.1, g.cell h.2.2.1, g.cell h.2.2.2.1, g.cell h.2.2.2.2.1, g.cell h.2.2.2.2.2.1, g.cell h.2.2.2.2.2.2.1, g.cell h.2.2.2.2.2.2.2.1, g.cell h.2.2.2.2.2.2.2.2.1, h.2.2.2.2.2.2.2.2.2.trans g⟩
end Go.Proofs.YtfbfkkaepgcggaaGreat
