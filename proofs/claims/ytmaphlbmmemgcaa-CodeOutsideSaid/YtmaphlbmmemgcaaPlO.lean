/- The plain law of CodeOutside: what lines outside a slice write does not change its register. No program is named. -/
import Derived.Test.YtmaphlbmmemgcaaPlX
import Derived.Test.YtmaphlbmmemgcaaPlF
import Derived.Test.YtmaphlbmmemgcaaPlM
namespace Go.Proofs.Ytmaphlbmmemgcaa
open Go.RowKit

theorem Ms.get_set' (m : Ms) (r q : Int) (x : Bool) (r0 : 0 ≤ r) (r3 : r ≤ 3) (q0 : 0 ≤ q) (q3 : q ≤ 3) : (m.set r x).get q = if q = r then x else m.get q := by
  have hr : r = 0 ∨ r = 1 ∨ r = 2 ∨ r = 3 := by omega
  have hq : q = 0 ∨ q = 1 ∨ q = 2 ∨ q = 3 := by omega
  rcases hr with rfl | rfl | rfl | rfl <;> rcases hq with rfl | rfl | rfl | rfl <;> rfl
theorem foldl_true {q : Int} (q0 : 0 ≤ q) (q3 : q ≤ 3) : ∀ (rs : List Int) (m : Ms), (∀ r ∈ rs, 0 ≤ r ∧ r ≤ 3) → (q ∈ rs ∨ m.get q = true) → (rs.foldl (fun m r => m.set r true) m).get q = true
  | [], m, _, h => by simpa using h
  | r :: rs, m, hr, h => by
    obtain ⟨r0, r3⟩ := hr r (by simp)
    refine foldl_true q0 q3 rs (m.set r true) (fun x hx => hr x (by simp [hx])) ?_
    by_cases e : q = r
    · right; rw [Ms.get_set' _ _ _ _ r0 r3 q0 q3, if_pos e]
    · rcases h with h | h
      · rcases List.mem_cons.1 h with h | h
        · exact absurd h e
        · exact .inl h
      · right; rw [Ms.get_set' _ _ _ _ r0 r3 q0 q3, if_neg e]; exact h

/-- How a walk back stands ahead of a line. -/
def slAt (p : List Ln) (m0 : Ms) (i : Nat) (s : St) : Ms × List Int := (visN p noF i s).foldr (fun v acc => sliceStep p acc v) (m0, [])
theorem slAt_end {p : List Ln} {m0 : Ms} {i : Nat} {s : St} (h : p.length ≤ i) : slAt p m0 i s = (m0, []) := by unfold slAt; rw [visN_end h]; rfl
theorem slAt_step {p : List Ln} {m0 : Ms} {i : Nat} {s : St} {l : Ln} (h : p[i]? = some l) : slAt p m0 i s = sliceStep p (slAt p m0 (nextI l i s) (stepS noF l i s)) (i, s) := by unfold slAt; rw [visN_step h]; rfl
def agree (m : Ms) (s t : St) : Prop := ∀ q, 0 ≤ q → q ≤ 3 → m.get q = true → s.get q = t.get q
theorem outside_run {p : List Ln} (hok : ∀ l ∈ p, l.ok = true) (m0 : Ms) (f : Nat → Option Int) : ∀ (n i : Nat) (s t : St), p.length ≤ i + n → agree (slAt p m0 i s).1 s t → (∀ j : Nat, (j : Int) ∈ (slAt p m0 i s).2 → f j = none) → agree m0 (trc p noF i s).2 (trc p f i t).2
  | 0, i, s, t, h, ha, _ => by rw [slAt_end (by omega)] at ha; rw [end_end (by omega), end_end (by omega)]; exact ha
  | n + 1, i, s, t, h, ha, hf => by
    cases hl : p[i]? with
    | none =>
      have := List.getElem?_eq_none_iff.1 hl
      rw [slAt_end this] at ha; rw [end_end this, end_end this]; exact ha
    | some l =>
      have hlo := hok l (List.mem_of_getElem? hl)
      have hgt := nextI_gt l i s
      rw [slAt_step hl] at ha hf
      rw [end_step hl, end_step hl]
      generalize hacc : slAt p m0 (nextI l i s) (stepS noF l i s) = acc at ha hf
      have hss : sliceStep p acc (i, s) = if l.op ≠ 7 ∧ (wrB l.op = false ∨ acc.1.get l.d = false) then acc else ((rdL l.op l.a l.b).foldl (fun m r => m.set r true) (if wrB l.op then acc.1.set l.d false else acc.1), acc.2 ++ [(i : Int)]) := by
        unfold sliceStep; rw [show p[(i, s).1]? = some l from hl]
      rw [hss] at ha hf
      have key : ∀ t', nextI l i t = nextI l i s → stepS f l i t = t' → agree acc.1 (stepS noF l i s) t' → (∀ j : Nat, (j : Int) ∈ acc.2 → f j = none) → agree m0 (trc p noF (nextI l i s) (stepS noF l i s)).2 (trc p f (nextI l i t) (stepS f l i t)).2 := by
        intro t' e1 e2 h1 h2
        rw [e1, e2]
        exact outside_run hok m0 f n _ _ _ (by omega) (by rw [hacc]; exact h1) (by rw [hacc]; exact h2)
      by_cases hc : l.op ≠ 7 ∧ (wrB l.op = false ∨ acc.1.get l.d = false)
      · rw [if_pos hc] at ha hf
        obtain ⟨h7, hc⟩ := hc
        have hn : ∀ x, nextI l i x = i + 1 := fun x => by unfold nextI; rw [if_neg (fun e => h7 e.1)]
        refine key _ (by rw [hn, hn]) rfl ?_ hf
        cases hw : wrB l.op with
        | false =>
          rw [stepS_of_not hw, show stepS f l i t = t by unfold stepS; rw [if_neg (by rw [hw]; simp)]]
          exact ha
        | true =>
          have hd : acc.1.get l.d = false := by rcases hc with e | e; rw [hw] at e; cases e; exact e
          obtain ⟨d0, d3⟩ := wr_reg hlo hw
          rw [stepS_of_wr hw, show stepS f l i t = t.set l.d (cut ((f i).getD (opV l.op l.a (t.get l.a) (t.get l.b)))) by unfold stepS; rw [if_pos hw]]
          intro q q0 q3 hq
          have hne : l.d ≠ q := fun e => by rw [e] at hd; rw [hd] at hq; cases hq
          rw [St.get_set_ne _ _ _ _ hne d0 d3 q0 q3, St.get_set_ne _ _ _ _ hne d0 d3 q0 q3]
          exact ha q q0 q3 hq
      · rw [if_neg hc] at ha hf
        dsimp only at ha hf
        have hfi : f i = none := hf i (by simp)
        have hf' : ∀ j : Nat, (j : Int) ∈ acc.2 → f j = none := fun j hj => hf j (by simp [hj])
        have hrd : ∀ q ∈ rdL l.op l.a l.b, s.get q = t.get q := fun q hq => by
          obtain ⟨q0, q3⟩ := rd_reg hlo q hq
          exact ha q q0 q3 (foldl_true q0 q3 _ _ (rd_reg hlo) (.inl hq))
        by_cases h7 : l.op = 7
        · have hw : wrB l.op = false := by rw [h7]; rfl
          have er : rdL l.op l.a l.b = two l.a l.b := by unfold rdL; rw [if_neg (by omega), if_pos (by omega)]
          rw [er] at hrd
          have ea := hrd l.a (mem_two_a _ _)
          have eb := hrd l.b (mem_two_b _ _)
          have hn : nextI l i t = nextI l i s := by unfold nextI; rw [ea, eb]
          refine key _ hn (show stepS f l i t = t by unfold stepS; rw [if_neg (by rw [hw]; simp)]) ?_ hf'
          rw [stepS_of_not hw]
          intro q q0 q3 hq
          exact ha q q0 q3 (foldl_true q0 q3 _ _ (rd_reg hlo) (.inr (by rw [hw]; simpa using hq)))
        · have hw : wrB l.op = true := by
            cases e : wrB l.op with
            | true => rfl
            | false => exact absurd ⟨h7, .inl e⟩ hc
          obtain ⟨d0, d3⟩ := wr_reg hlo hw
          have hn : ∀ x, nextI l i x = i + 1 := fun x => by unfold nextI; rw [if_neg (fun e => h7 e.1)]
          have ev : stepS f l i t = t.set l.d (cut (opV l.op l.a (s.get l.a) (s.get l.b))) := by
            unfold stepS; rw [if_pos hw, hfi, opV_congr hw hrd]; rfl
          refine key _ (by rw [hn, hn]) ev ?_ hf'
          rw [stepS_of_wr hw]
          intro q q0 q3 hq
          by_cases e : l.d = q
          · rw [e, St.get_set_eq _ _ _ (by omega) (by omega), St.get_set_eq _ _ _ (by omega) (by omega)]
          · rw [St.get_set_ne _ _ _ _ e d0 d3 q0 q3, St.get_set_ne _ _ _ _ e d0 d3 q0 q3]
            refine ha q q0 q3 (foldl_true q0 q3 _ _ (rd_reg hlo) (.inr ?_))
            rw [hw, if_pos rfl, Ms.get_set' _ _ _ _ d0 d3 q0 q3, if_neg (fun e2 => e e2.symm)]
            exact hq
theorem slAt_slice (p : List Ln) (s : List Int) (r : Int) : (slAt p (Ms.set ⟨false, false, false, false⟩ r true) 0 (St.ofL s)).2 = (sliceM p s r).reverse := by
  unfold sliceM slAt
  rw [List.reverse_reverse, List.foldl_reverse]; rfl
/-- Forced lines outside the slice: the register is the same. -/
theorem outside_law {p : List Ln} {s lines values : List Int} {r : Int} (hc : chk p s = 0) (r0 : 0 ≤ r) (r3 : r ≤ 3) (hout : ∀ x ∈ lines, x ∉ sliceM p s r) : (trc p noF 0 (St.ofL s)).2.get r = (trc p (frc lines values) 0 (St.ofL s)).2.get r := by
  refine outside_run (valP_ok.1 (chk_ok.1 hc).1).2 (Ms.set ⟨false, false, false, false⟩ r true) (frc lines values) _ 0 _ _ (Nat.le_add_left _ _) (fun q _ _ _ => rfl) ?_ r r0 r3 ?_
  · intro j hj
    rw [slAt_slice] at hj
    have hj' : (j : Int) ∈ sliceM p s r := by simpa using hj
    have hnc : lines.contains (j : Int) = false := by
      cases e : lines.contains (j : Int) with
      | false => rfl
      | true => exact absurd hj' (hout _ (by simpa using e))
    exact frcN_none hnc _ (Nat.le_refl _)
  · rw [Ms.get_set' _ _ _ _ r0 r3 r0 r3, if_pos rfl]
end Go.Proofs.Ytmaphlbmmemgcaa
