/- The plain functions behind layer 1, more of them: what a line reads, slices. No program is named. -/
import Derived.Test.YtbccbokjecdaaaaPlB
namespace Go.Proofs.Ytbccbokjecdaaaa

/-- How many registers a line reads. -/
def rdN (op : Int) : Int := if op = 2 then 1 else if 3 ≤ op then 2 else 0
def rdL (op a b : Int) : List Int := if op = 2 then [a] else if 3 ≤ op then two a b else []
end Go.Proofs.Ytbccbokjecdaaaa
