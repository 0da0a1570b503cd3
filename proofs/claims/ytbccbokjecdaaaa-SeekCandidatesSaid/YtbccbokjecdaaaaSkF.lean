/- The walk of templates. -/
import Derived.Test.YtbccbokjecdaaaaSkE
namespace Go.Proofs.Ytbccbokjecdaaaa
open Go.RowKit

theorem info_ln : (Try.prog.info? 23).map (fun i => (i.zero, i.size, i.bytes)) = some (some (.agg #[.int .i64 0, .int .i64 0, .int .i64 0, .int .i64 0]), 4, 32) := by kernel_rfl
/-- The line's box, and the row that templates has gathered. -/
structure TI (w : World) (l : Ln) (xs : List Ln) (out : Value) (wr : World) : Prop where
  g : Grow w wr
  bx : wr.heap[w.heap.size]? = some (.cells #[.int .i64 l.op, .int .i64 l.d, .int .i64 l.a, .int .i64 l.b] 23 (0, 0))
  ow : wr.ownsRow (w.heap.size + 1) 23 4 out xs.length (xs.flatMap encL)
theorem TI.grow {w : World} {l : Ln} {xs : List Ln} {out : Value} {wr W : World} (h : TI w l xs out wr) (g : Grow wr W) : TI w l xs out W := ⟨h.g.trans g, g.blk h.bx, g.owns h.ow⟩
theorem TI.sz {w : World} {l : Ln} {xs : List Ln} {out : Value} {wr : World} (h : TI w l xs out wr) : w.heap.size + 1 ≤ wr.heap.size := lt_of_block h.bx
theorem TI.app {w : World} {l y : Ln} {xs : List Ln} {out out' : Value} {wr W w2 : World} (h : TI w l xs out wr) (g : Grow wr W) (ho : w2.ownsRow (w.heap.size + 1) 23 4 out' (xs ++ [y]).length ((xs ++ [y]).flatMap encL)) (hg : W.grownBy w2 out.ownBlock) : TI w l (xs ++ [y]) out' w2 :=
  have h2 := h.grow g
  ⟨grown_below h2.ow hg (by omega) h2.g.sz h2.g, grown_keep h2.ow hg (by omega) h2.bx, ho⟩
theorem news_gen (W : World) (n : Nat) (hn : W.heap.size = n) (cs : List Value) (t : TypeId) : ∀ j v, cs[j]? = some v → (W.alloc (.cells cs.toArray t)).cell? ((⟨n, 0, none⟩ : Addr).add j) = some v := hn ▸ news_one W cs t
theorem frz {w : World} {b : Nat} {cs : Array Value} {e : TypeId} (h : w.heap[b]? = some (.cells cs e (0, 0))) (o : Nat) : w.frozen? ⟨b, o, none⟩ = false := by
  unfold World.frozen?; simp only [h]; rfl
theorem cellOf {w : World} {b : Nat} {cs : Array Value} {e : TypeId} (h : w.heap[b]? = some (.cells cs e (0, 0))) (o : Nat) {v : Value} (hv : cs[o]? = some v) : w.cell? ⟨b, o, none⟩ = some v := by
  unfold World.cell?; simp only [h]; exact hv
theorem TI.end_ {w : World} {l : Ln} {xs : List Ln} {out : Value} {wr : World} (h : TI w l xs out wr) (hp : 0 < xs.length) : ∃ g cap, out = .slice (some ⟨g, 0, none⟩) xs.length cap ∧ w.heap.size + 1 ≤ g ∧ g < wr.heap.size ∧ xs.length ≤ cap ∧ cap ≤ 9223372036854775807 ∧ RowL wr g 0 xs := by
  have hr := h.ow
  rcases h.ow.2 with ⟨_, h0⟩ | ⟨g, cap, cur, rfl, hg, hh, _⟩
  · omega
  · obtain ⟨_, c, e, h1, h2, _⟩ := slc_of_owns encL_len h.ow
    cases e
    exact ⟨g, cap, rfl, hg, lt_of_block hh, h1, h2, RowL.of_own h.ow⟩

theorem snoc_range (pre : List Ln) (f : Nat → Ln) (r : Nat) : pre ++ (List.range (r + 1)).map f = pre ++ (List.range r).map f ++ [f r] := by
  rw [List.range_succ, List.map_append, List.append_assoc]; rfl
theorem insL_len (x : Ln) : ∀ l, (insL x l).length ≤ l.length + 1
  | [] => by simp [insL]
  | y :: r => by
    unfold insL
    have := insL_len x r
    split
    · simp
    · split <;> simp <;> omega
theorem ordL_len (xs : List Ln) : (ordL xs).length ≤ xs.length := by
  unfold ordL
  induction xs with
  | nil => simp
  | cons x r ih => have := insL_len x (r.foldr insL []); simp only [List.foldr_cons, List.length_cons]; omega
theorem validL_len (xs : List Ln) (but : Ln) : (validL xs but).length ≤ xs.length := Nat.le_trans (ordL_len _) (List.length_filter_le _ _)

end Go.Proofs.Ytbccbokjecdaaaa
