/- What the document's trace keeps: the state's slice, the steps so far, and each step's copy of the state. -/
import Derived.Test.YtmaphlbmmemgcaaRefD
import Derived.Test.YtmaphlbmmemgcaaPlF
import Derived.Test.YtmaphlbmmemgcaaPlP
namespace Go.Proofs.Ytmaphlbmmemgcaa
open Go.RowKit

/-- A slice value in its parts. -/
abbrev SV := Option Addr × Nat × Nat
def sv (x : SV) : Value := .slice x.1 x.2.1 x.2.2
def encP (p : Nat × SV) : List Value := [.int .i64 p.1, sv p.2]
theorem encP_len (p : Nat × SV) : (encP p).length = 2 := rfl
theorem encP_one (p : Nat × SV) : ∀ u ∈ encP p, u.oneCell' = true := by
  intro u hu; simp [encP] at hu; rcases hu with rfl | rfl <;> rfl

/-- Rows of different types lie in different blocks. -/
theorem rows_apart {w : World} {base base' : Nat} {e e' : TypeId} {k k' : Nat} {v v' : Value} {n n' : Nat} {xs xs' : List Value} (h : w.ownsRow base e k v n xs) (h' : w.ownsRow base' e' k' v' n' xs') (he : e ≠ e') : v.ownBlock = none ∨ v.ownBlock ≠ v'.ownBlock := by
  rcases h.2 with ⟨rfl, _⟩ | ⟨g, cap, cur, rfl, _, hg, _⟩
  · exact .inl rfl
  · rcases h'.2 with ⟨rfl, _⟩ | ⟨g', cap', cur', rfl, _, hg', _⟩
    · exact .inr (by simp [Value.ownBlock])
    · refine .inr fun e1 => ?_
      have e2 : g = g' := by simpa [Value.ownBlock] using e1
      subst e2
      rw [hg] at hg'
      simp at hg'
      exact he hg'.2

/-- Where a trace stands. -/
structure TrI (w w3 : World) (g cap : Nat) (st : St) (outv : Value) (ps : List (Nat × SV)) (vs : List (Nat × St)) (W : World) : Prop where
  bel : Below w.heap.size w W
  sz : w3.heap.size ≤ W.heap.size
  now : W.ownsRow w.heap.size 3 1 (.slice (some ⟨g, 0, none⟩) 4 cap) 4 (st.toL.flatMap encI)
  out : W.ownsRow w3.heap.size 93 2 outv ps.length (ps.flatMap encP)
  len : ps.length = vs.length
  each : ∀ (j : Nat) (p : Nat × SV) (v : Nat × St), ps[j]? = some p → vs[j]? = some v → p.1 = v.1 ∧ W.ownsRow w3.heap.size 3 1 (sv p.2) 4 (v.2.toL.flatMap encI)

theorem TrI.grow {w w3 : World} {g cap : Nat} {st : St} {outv : Value} {ps : List (Nat × SV)} {vs : List (Nat × St)} {W W' : World} (h : TrI w w3 g cap st outv ps vs W) (k : Grow W W') : TrI w w3 g cap st outv ps vs W' :=
  ⟨Below.of_grow h.bel k h.bel.size, Nat.le_trans h.sz k.sz, k.owns h.now, k.owns h.out, h.len, fun j p v hp hv => ⟨(h.each j p v hp hv).1, k.owns (h.each j p v hp hv).2⟩⟩

theorem flat_int_set (xs : List Int) (i : Nat) (n : Int) : (xs.flatMap encI).set i (.int .i64 n) = (xs.set i n).flatMap encI := by
  have : ∀ l : List Int, l.flatMap encI = l.map (Value.int .i64) := by
    intro l; induction l with
    | nil => rfl
    | cons x xs ih => rw [List.flatMap_cons, ih]; rfl
  rw [this, this, List.map_set]

theorem TrI.set {w w3 : World} {g cap : Nat} {st : St} {outv : Value} {ps : List (Nat × SV)} {vs : List (Nat × St)} {W : World} (h : TrI w w3 g cap st outv ps vs W) (hg : g < w3.heap.size) (hw : w.heap.size ≤ g) (r n : Int) (h0 : 0 ≤ r) (h3 : r ≤ 3) :
    TrI w w3 g cap (st.set r n) outv ps vs (W.setCell ⟨g, r.toNat, none⟩ (.int .i64 n)) := by
  refine ⟨Below.setCell h.bel hw _, by rw [World.size_setCell]; exact h.sz, ?_, ownsRow_setCell_below h.out (by simpa using hg) _, h.len, fun j p v hp hv => ⟨(h.each j p v hp hv).1, ownsRow_setCell_below (h.each j p v hp hv).2 (by simpa using hg) _⟩⟩
  rw [toL_set st r n h0 h3, ← flat_int_set]
  exact ownsRow_set h.now _ _

/-- A step is appended: Wa is the world ahead of the append. -/
theorem TrI.app {w w3 : World} {g cap : Nat} {st : St} {outv outv' : Value} {bv : SV} {ps : List (Nat × SV)} {vs : List (Nat × St)} {W Wa W' : World} {i : Nat} (h : TrI w w3 g cap st outv ps vs W) (ga : Grow W Wa)
    (hbv : Wa.ownsRow w3.heap.size 3 1 (sv bv) 4 (st.toL.flatMap encI)) (hww : w.heap.size ≤ w3.heap.size)
    (hown : W'.ownsRow w3.heap.size 93 2 outv' (ps ++ [(i, bv)]).length ((ps ++ [(i, bv)]).flatMap encP)) (hgr : Wa.grownBy W' outv.ownBlock) :
    TrI w w3 g cap st outv' (ps ++ [(i, bv)]) (vs ++ [(i, st)]) W' := by
  have h2 := h.grow ga
  have hz := h2.sz
  have key : ∀ {base : Nat} {v : Value} {l : List Value}, Wa.ownsRow base 3 1 v 4 l → W'.ownsRow base 3 1 v 4 l := fun hr => hr.kept hgr (rows_apart hr h2.out (by decide))
  refine ⟨grown_below h2.out hgr hww (by omega) h2.bel, Nat.le_trans hz hgr.size, key h2.now, hown, by simp [h.len], ?_⟩
  intro j p v hp hv
  by_cases hj : j < ps.length
  · rw [List.getElem?_append_left hj] at hp
    rw [List.getElem?_append_left (by rw [← h.len]; exact hj)] at hv
    exact ⟨(h2.each j p v hp hv).1, key (h2.each j p v hp hv).2⟩
  · have hje : j = ps.length := by
      have := (List.getElem?_eq_some_iff.1 hp).1
      simp at this; omega
    subst hje
    rw [List.getElem?_append_right (Nat.le_refl _)] at hp
    rw [h.len, List.getElem?_append_right (Nat.le_refl _)] at hv
    simp at hp hv
    subst hp hv
    exact ⟨rfl, key hbv⟩
end Go.Proofs.Ytmaphlbmmemgcaa
