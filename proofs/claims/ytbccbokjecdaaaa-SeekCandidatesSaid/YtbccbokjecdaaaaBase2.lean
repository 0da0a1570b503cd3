/- General lemmas, more of them: whole lists appended, what a cut of a list holds. No program is named. -/
import Derived.Test.YtbccbokjecdaaaaBase
namespace Go.Proofs.Ytbccbokjecdaaaa
open Go.RowKit

/-- A whole list appended to a list that the call has made. -/
theorem wpList_appAll {P : Program} {α : Type} (w : World) {ops : Array Oper} {rest : List Oper} {o : Oper} {a : Act} {Q : Exit → Act → World → Prop} (hgd : o.guard = none) (s x : Operand) (t : TypeId)
    (ho : o.op = .call { callee := .builtin .append, args := #[s, x], argTypes := #[t, t] })
    (base : Nat) (e : TypeId) {k bytes : Nat} {z : Value} (ht : P.underlying t = some (.slice e)) (info : (P.info? e).map (fun i => (i.zero, i.size, i.bytes)) = some (some z, k, bytes))
    (hzs : z.cells.size = k) (hk : 0 < k) (hby : bytes ≤ 1000)
    (enc : α → List Value) (hen : ∀ x, (enc x).length = k) (h1 : ∀ x, ∀ u ∈ enc x, u.oneCell' = true)
    (v : Value) (xs : List α) (hs : a.eval s = v) (hown : w.ownsRow base e k v xs.length (xs.flatMap enc)) (u : Value) (ys : List α) (hx : a.eval x = u) (hsrc : SlcAt k enc w u ys)
    (hn : xs.length + ys.length < 100000000000) (hbase : base ≤ w.heap.size)
    (h : ∀ v' w', w'.ownsRow base e k v' (xs ++ ys).length ((xs ++ ys).flatMap enc) → w.grownBy w' v.ownBlock → wpList P ops Q rest (a.put o.dst v') w') : wpList P ops Q (o :: rest) a w := by
  obtain ⟨i, hi, hz0, hz1, hz2⟩ := info_parts info
  obtain ⟨ao, c, rfl, h2, h3, h4⟩ := hsrc
  cases ao with
  | none =>
    have hys : ys = [] ∧ c = 0 := by
      rcases h4 with ⟨h4, h5⟩ | ⟨b, o, h4, _⟩
      · exact ⟨h4, h5 rfl⟩
      · cases h4
    obtain ⟨rfl, rfl⟩ := hys
    refine wpList_plain hgd fun K hK' => ?_
    have hrun := run_append_owned_none (P := P) w base t o.type e i k ht hi v xs.length (xs.flatMap enc) hown
    unfold Oper.wp
    simp only [List.length_nil] at hx
    simp [execOp, ho, resolve, invoke, builtin, hs, hx, hrun, Result.andThen]
    exact hK' _ _ (h v w (by simpa using hown) (World.grownBy.refl _ _))
  | some ad =>
    refine wpList_append_own w hgd s x t ho base e i z k bytes ht hi hz0 hz1 hz2 hzs hk v xs.length (xs.flatMap enc) hs hown ad ys.length c (ys.flatMap enc) hx (flatMap_length hen ys) ?_ ?_ (by unfold maxLen; omega) ?_ hbase ?_
    · rcases h4 with ⟨h4, _⟩ | ⟨b, o', h4, hb, hc⟩
      · subst h4; intro j u hj; simp at hj
      · cases h4
        intro j u hj
        have hjl : j < ys.length * k := by rw [← flatMap_length hen ys]; exact (List.getElem?_eq_some_iff.1 hj).1
        have hq : j / k < ys.length := Nat.div_lt_of_lt_mul (by rw [Nat.mul_comm]; exact hjl)
        obtain ⟨y, hy⟩ : ∃ y, ys[j / k]? = some y := ⟨_, List.getElem?_eq_getElem hq⟩
        have hr : j % k < k := Nat.mod_lt _ hk
        have hf := flatMap_getElem? hen ys (j / k) y hy (j % k) hr
        have hdm : j / k * k + j % k = j := by rw [Nat.mul_comm]; exact Nat.div_add_mod j k
        rw [hdm, hj] at hf
        have := hc (j / k) y hy (j % k) u hf.symm
        rw [Addr.add_lit]
        rw [Nat.add_assoc, hdm] at this
        exact this
    · intro u hu
      obtain ⟨y, _, hy⟩ := List.mem_flatMap.1 hu
      exact h1 y u hy
    · exact Nat.le_trans (Nat.mul_le_mul (show xs.length + ys.length ≤ 100000000000 by omega) hby) (by decide)
    · intro v' w' a1 a2 _
      refine h v' w' ?_ a2
      rw [List.length_append, List.flatMap_append]
      exact a1

theorem encI_one (n : Int) : ∀ u ∈ encI n, u.oneCell' = true := by intro u hu; simp [encI] at hu; subst hu; rfl
theorem encL_one (l : Ln) : ∀ u ∈ encL l, u.oneCell' = true := by
  intro u hu; simp [encL] at hu; rcases hu with rfl | rfl | rfl | rfl <;> rfl

/-- An empty list in a block of its own. -/
theorem ownsRow_empty {α : Type} (w : World) (k : Nat) (e : TypeId) (enc : α → List Value) (base : Nat) (hb : base ≤ w.heap.size) : (w.alloc (.cells #[] e)).ownsRow base e k (.slice (some ⟨w.heap.size, 0, none⟩) 0 0) ([] : List α).length (([] : List α).flatMap enc) := by
  have := World.ownsRow_made (base := base) (e := e) (size := k) w #[] 0 hb (by simp [maxLen]) (by simp)
  exact this

/-- A slice value whose block, if it has one, is at or above base. -/
def NewS (base : Nat) (v : Value) : Prop := ∀ a n c, v = .slice (some a) n c → base ≤ a.block
theorem NewS.mono {base base' : Nat} {v : Value} (h : NewS base v) (hb : base' ≤ base) : NewS base' v := fun a n c e => Nat.le_trans hb (h a n c e)
theorem NewS.nil (base n c : Nat) : NewS base (.slice none n c) := by intro a n c e; cases e
theorem NewS.of_own {α : Type} {k : Nat} {enc : α → List Value} {base : Nat} {w : World} {v : Value} {xs : List α} (h : Own k enc base w v xs) : NewS base v := by
  obtain ⟨e, h1, h2⟩ := h
  intro a n c ev
  rcases h2 with ⟨rfl, _⟩ | ⟨g, cap, cur, rfl, hb, _⟩
  · cases ev
  · cases ev; exact hb

end Go.Proofs.Ytbccbokjecdaaaa
