/- Maps from numbers to true that a call makes: which sets they hold; and worlds in which nothing but two such maps has turned. -/
import Derived.Test.YtmlbgfnddgbpbaaGreatD05
import Derived.Test.YtmlbgfnddgbpbaaGreatD00
import Derived.Test.YtmlbgfnddgbpbaaGreatRows
import Derived.Maps.RangeWalk
import Derived.Maps.Ext
namespace Go.Proofs.YtmlbgfnddgbpbaaGreat
open Go.RowKit
open Go.Maps (Keyed)

theorem lawM : Keyed Tryz.prog 3 := Go.Maps.int_keyed Tryz.underlying3
theorem keyM {i : Int} (hw : (Lit.int .i64 i).wf = true) : keyOf Tryz.prog 3 (.int .i64 i) = some (.int .i64 i) := Go.Maps.keyOf_int_mk Tryz.underlying3 hw
theorem wf_mask {m : Nat} (h : m < 256) : (Lit.int .i64 (m : Int)).wf = true := WalkArith.wf_i64 (by omega)
/-- A map that reads as D holds the sets S, and nothing else. -/
structure HoldsS (D : DataW Unit) (S : Nat → Bool) : Prop where
  yes : ∀ m : Nat, m < 256 → S m = true → ∀ z, D.atKey (.int .i64 (m : Int)) z = .lit (.bool true)
  no : ∀ m : Nat, m < 256 → S m = false → ∀ z, D.atKey (.int .i64 (m : Int)) z = z
  all : ∀ kl, Go.Maps.has D kl = true → ∃ m : Nat, m < 256 ∧ S m = true ∧ kl = .int .i64 (m : Int)
theorem HoldsS.start : HoldsS (.map []) (fun _ => false) := ⟨fun _ _ h => (by cases h), fun _ _ _ _ => rfl, fun _ h => (by cases h)⟩
def addS (S : Nat → Bool) (m : Nat) : Nat → Bool := fun x => decide (x = m) || S x
theorem addS_same (S : Nat → Bool) (m : Nat) : addS S m m = true := by unfold addS; simp
theorem addS_old {S : Nat → Bool} {m x : Nat} (h : S x = true) : addS S m x = true := by unfold addS; rw [h, Bool.or_true]
theorem addS_iff {S : Nat → Bool} {m x : Nat} : addS S m x = true ↔ x = m ∨ S x = true := by unfold addS; rw [Bool.or_eq_true, decide_eq_true_eq]
theorem HoldsS.put {D : DataW Unit} {S : Nat → Bool} (h : HoldsS D S) (hD : Go.Maps.IsMap D) {m : Nat} (hm : m < 256) (hk : WideAt.IsKeyLit (.int .i64 (m : Int))) : HoldsS (D.put (.int .i64 (m : Int)) (.lit (.bool true))) (addS S m) := by
  have hne : ∀ {x : Nat}, x ≠ m → (Lit.int .i64 (x : Int)) ≠ .int .i64 (m : Int) := fun hx e => hx (by cases e; rfl)
  refine ⟨fun x hx hs z => ?_, fun x hx hs z => ?_, fun kl hh => ?_⟩
  · by_cases e : x = m
    · subst e; exact Go.Maps.atKey_put_same hD hk _ _
    · rw [Go.Maps.atKey_put_other (hne e)]
      exact h.yes x hx ((addS_iff.1 hs).resolve_left e) z
  · have e : x ≠ m := fun e => by subst e; rw [addS_same] at hs; cases hs
    rw [Go.Maps.atKey_put_other (hne e)]
    refine h.no x hx ?_ z
    cases hb : S x with
    | false => rfl
    | true => rw [addS_old hb] at hs; cases hs
  · by_cases e : kl = .int .i64 (m : Int)
    · exact ⟨m, hm, addS_same S m, e⟩
    · rw [Go.Maps.has_put_other e] at hh
      obtain ⟨x, hx, hs, he⟩ := h.all kl hh
      exact ⟨x, hx, addS_old hs, he⟩
/-- How many sets there are. -/
def card (S : Nat → Bool) : Nat := ((List.range 256).filter S).length
theorem card_le (S : Nat → Bool) : card S ≤ 256 := by unfold card; have := List.length_filter_le S (List.range 256); simpa using this
theorem card_add {S : Nat → Bool} {m : Nat} (hm : m < 256) (h : S m = false) : card S + 1 ≤ card (addS S m) := by
  have key : ∀ l : List Nat, (l.filter S).length + (if m ∈ l then 1 else 0) ≤ (l.filter (addS S m)).length := by
    intro l
    induction l with
    | nil => simp
    | cons x r ih =>
      rw [List.filter_cons, List.filter_cons]
      by_cases e : x = m
      · subst e
        rw [h, addS_same, if_pos rfl, if_neg (by decide), if_pos (by simp), List.length_cons]
        split at ih <;> omega
      · have hmm : (m ∈ x :: r) ↔ m ∈ r := by rw [List.mem_cons]; exact ⟨fun h => h.resolve_left fun e2 => e e2.symm, .inr⟩
        have hxs : addS S m x = S x := by unfold addS; rw [decide_eq_false e, Bool.false_or]
        rw [hxs]
        simp only [hmm]
        cases S x
        · simpa using ih
        · simp only [if_true, List.length_cons]; omega
  have := key (List.range 256)
  rw [if_pos (List.mem_range.2 hm)] at this
  exact this
/-- The block b is a map that holds the sets S. -/
def SetAt (w : World) (b : Nat) (S : Nat → Bool) : Prop := ∃ (n : Nat) (D : DataW Unit), n ≤ card S ∧ w.ownsMap Tryz.prog 3 (plainElem Tryz.prog 4) b n D ∧ HoldsS D S
theorem SetAt.made (w : World) : SetAt (w.alloc (.map #[] 0)) w.heap.size (fun _ => false) := ⟨0, .map [], Nat.zero_le _, World.ownsMap_made _ _ _ _, HoldsS.start⟩
theorem SetAt.lt {w : World} {b : Nat} {S : Nat → Bool} (h : SetAt w b S) : b < w.heap.size := by obtain ⟨n, D, _, h, _⟩ := h; exact h.lt
theorem SetAt.kept {w w' : World} {b : Nat} {S : Nat → Bool} {row : Option Nat} (h : SetAt w b S) (hg : w.grownBy w' row) (hne : some b ≠ row) : SetAt w' b S := by
  obtain ⟨n, D, h1, h2, h3⟩ := h; exact ⟨n, D, h1, h2.kept hg hne, h3⟩
theorem SetAt.grow {w w' : World} {b : Nat} {S : Nat → Bool} (h : SetAt w b S) (hg : Grow w w') : SetAt w' b S := h.kept (hg.grownBy none) (by simp)
theorem zero_bool (w : World) : (zeroValue 4).run Tryz.prog w = .ok (.bool false) w := by kernel_rfl
set_option maxRecDepth 100000 in
/-- What a look-up of a set answers. -/
theorem SetAt.look {w : World} {b : Nat} {S : Nat → Bool} (h : SetAt w b S) {m : Nat} (hm : m < 256) : (Instr.lookup 105 (.map (some b)) (.int .i64 (m : Int)) false).run Tryz.prog w = .ok (.bool (S m)) w := by
  obtain ⟨n, D, _, ho, hh⟩ := h
  obtain ⟨v, ps, hrun, hv⟩ := ho.lookup lawM Tryz.underlying105 (zero_bool w) (plainElem_bool (H := Unit) Tryz.underlying4 false) (keyM (wf_mask hm))
  rw [hrun]
  have hvb : ∃ x, v = .bool x ∧ D.atKey (.int .i64 (m : Int)) (.lit (.bool false)) = .lit (.bool x) := by
    unfold plainElem at hv
    rw [Tryz.underlying4] at hv
    cases v <;> simp at hv
    exact ⟨_, rfl, hv.1.symm⟩
  obtain ⟨x, rfl, hx⟩ := hvb
  cases hs : S m with
  | true => rw [hh.yes m hm hs] at hx; cases hx; rfl
  | false => rw [hh.no m hm hs] at hx; cases hx; rfl
/-- The law of m[k] = true at the operation. -/
theorem wpList_setAdd {w : World} {ops : Array Oper} {rest : List Oper} {o : Oper} {a : Act} {Q : Exit → Act → World → Prop}
    (hg : o.guard = none) (m x v : Operand) (hop : o.op = Op.mapUpdate 105 m x v) (b : Nat) (S : Nat → Bool) (hm : a.eval m = .map (some b)) (hown : SetAt w b S)
    (k : Nat) (hk : k < 256) (hnew : S k = false) (hx : a.eval x = .int .i64 (k : Int)) (hv : a.eval v = .bool true)
    (hK : ∀ w', SetAt w' b (addS S k) → w.grownBy w' (some b) → wpList Tryz.prog ops Q rest (a.put o.dst undef) w') :
    wpList Tryz.prog ops Q (o :: rest) a w := by
  obtain ⟨n, D, hn, ho, hh⟩ := hown
  have hc := card_le S
  refine wpList_mapUpdate_own w hg m x v 105 hop 3 4 lawM Tryz.underlying105 (plainElem Tryz.prog 4) b n D hm ho (by unfold maxLen; omega) _ _ _ hx hv (keyM (wf_mask hk)) (.lit (.bool true)) [] (plainElem_bool Tryz.underlying4 true) ?_
  intro w' h1 h2
  refine hK w' ⟨n + 1, _, ?_, h1, hh.put ho.isMap hk (lawM.key (keyM (wf_mask hk)))⟩ h2
  have := card_add hk hnew; omega

/-- Nothing that was there has turned but the blocks r and s. -/
structure But (r s : Nat) (w w' : World) : Prop where
  os : w'.os = w.os
  tape : w'.tape = w.tape
  output : w'.output = w.output
  size : w.heap.size ≤ w'.heap.size
  block : ∀ k, k < w.heap.size → k ≠ r → k ≠ s → w'.heap[k]? = w.heap[k]?
namespace But
variable {r s : Nat} {a b c w w' : World}
theorem refl (w : World) : But r s w w := ⟨rfl, rfl, rfl, Nat.le_refl _, fun _ _ _ _ => rfl⟩
theorem trans (h : But r s a b) (k : But r s b c) : But r s a c :=
  ⟨k.os.trans h.os, k.tape.trans h.tape, k.output.trans h.output, Nat.le_trans h.size k.size, fun i hi h1 h2 => (k.block i (Nat.lt_of_lt_of_le hi h.size) h1 h2).trans (h.block i hi h1 h2)⟩
theorem of_grow (h : Grow w w') : But r s w w' := ⟨Below.os h, Below.tape h, Below.output h, h.sz, fun _ hk _ _ => h.heap hk⟩
theorem of_r (h : w.grownBy w' (some r)) : But r s w w' := ⟨h.os, h.tape, h.output, h.size, fun k hk h1 _ => h.block k hk (by simpa using h1)⟩
theorem of_s (h : w.grownBy w' (some s)) : But r s w w' := ⟨h.os, h.tape, h.output, h.size, fun k hk _ h2 => h.block k hk (by simpa using h2)⟩
theorem blk (h : But r s w w') {k : Nat} {o : Obj} (hk : w.heap[k]? = some o) (h1 : k ≠ r) (h2 : k ≠ s) : w'.heap[k]? = some o := (h.block k (lt_of_block hk) h1 h2).trans hk
theorem cell (h : But r s w w') {a : Addr} {v : Value} (hc : w.cell? a = some v) (h1 : a.block ≠ r) (h2 : a.block ≠ s) : w'.cell? a = some v := by
  have hb := World.block_lt_of_cell? _ _ hc
  have := h.block a.block hb h1 h2
  unfold World.cell? at *
  rw [this]; exact hc
theorem slc {α : Type} {k : Nat} {enc : α → List Value} {v : Value} {xs : List α} (h : But r s w w') (hs : SlcAt k enc w v xs) (hn : xs ≠ [] → ∀ b o, (∃ n c, v = .slice (some ⟨b, o, none⟩) n c) → b ≠ r ∧ b ≠ s) : SlcAt k enc w' v xs := by
  obtain ⟨a, c, h1, h2, h3, h4⟩ := hs
  refine ⟨a, c, h1, h2, h3, ?_⟩
  by_cases hx : xs = []
  · rcases h4 with h4 | ⟨b, o, e, _⟩
    · exact .inl h4
    · exact .inl ⟨hx, fun h => by rw [h] at e; cases e⟩
  · rcases h4 with h4 | ⟨b, o, e, hb, hc⟩
    · exact absurd h4.1 hx
    · obtain ⟨n1, n2⟩ := hn hx b o ⟨xs.length, c, by rw [h1, e]⟩
      exact .inr ⟨b, o, e, Nat.lt_of_lt_of_le hb h.size, fun j x hx i u hu => h.cell (hc j x hx i u hu) n1 n2⟩
/-- Where both blocks are new, nothing old has turned. -/
theorem grow (h : But r s w w') (hw : Grow a w) (h1 : a.heap.size ≤ r) (h2 : a.heap.size ≤ s) : Grow a w' :=
  ⟨h.os.trans (Below.os hw), h.tape.trans (Below.tape hw), h.output.trans (Below.output hw), Nat.le_trans hw.sz h.size, fun k hk => (h.block k (Nat.lt_of_lt_of_le hk hw.sz) (by omega) (by omega)).trans (hw.heap hk)⟩
end But
/-! ### The search for all sets that hit: what is seen, and what is found -/
open Mk
def Closed (F : List Nat) (Sn Fd : Nat → Bool) (x : Nat) : Prop := if hit F x then Fd x = true else ∃ y ∈ F, y &&& x = 0 ∧ ∀ j, y.testBit j = true → Sn (x ||| 2 ^ j) = true
/-- What a call at the set m has done to what was seen and found. -/
structure Step (F : List Nat) (Sn Fd Sn' Fd' : Nat → Bool) : Prop where
  sn : ∀ x, Sn x = true → Sn' x = true
  fd : ∀ x, Fd x = true → Fd' x = true
  new : ∀ x, Sn' x = true → Sn x = false → Closed F Sn' Fd' x
  hits : ∀ x, Fd' x = true → Fd x = false → hit F x = true ∧ Sn' x = true
theorem Step.refl (F : List Nat) (Sn Fd : Nat → Bool) : Step F Sn Fd Sn Fd := ⟨fun _ h => h, fun _ h => h, fun x h h2 => by rw [h] at h2; (cases h2), fun x h h2 => by rw [h] at h2; (cases h2)⟩
theorem Closed.mono {F : List Nat} {Sn Fd Sn' Fd' : Nat → Bool} {x : Nat} (h : Closed F Sn Fd x) (h1 : ∀ x, Sn x = true → Sn' x = true) (h2 : ∀ x, Fd x = true → Fd' x = true) : Closed F Sn' Fd' x := by
  unfold Closed at *
  cases hh : hit F x with
  | true => rw [hh, if_pos rfl] at h; rw [if_pos rfl]; exact h2 x h
  | false =>
    rw [hh, if_neg (by decide)] at h; rw [if_neg (by decide)]
    obtain ⟨y, h3, h4, h5⟩ := h
    exact ⟨y, h3, h4, fun j hj => h1 _ (h5 j hj)⟩
theorem Step.trans {F : List Nat} {Sn Fd Sn1 Fd1 Sn2 Fd2 : Nat → Bool} (h : Step F Sn Fd Sn1 Fd1) (k : Step F Sn1 Fd1 Sn2 Fd2) : Step F Sn Fd Sn2 Fd2 := by
  refine ⟨fun x hx => k.sn x (h.sn x hx), fun x hx => k.fd x (h.fd x hx), fun x hx hn => ?_, fun x hx hn => ?_⟩
  · cases h1 : Sn1 x with
    | true => exact (h.new x h1 hn).mono k.sn k.fd
    | false => exact k.new x hx h1
  · cases h1 : Fd1 x with
    | true => exact ⟨(h.hits x h1 hn).1, k.sn x (h.hits x h1 hn).2⟩
    | false => exact k.hits x hx h1
/-- A set that hits has been found. -/
theorem Step.found {F : List Nat} {Sn Fd : Nat → Bool} {m : Nat} (hn : Sn m = false) (hh : hit F m = true) : Step F Sn Fd (addS Sn m) (addS Fd m) := by
  refine ⟨fun x => addS_old, fun x => addS_old, fun x hx hs => ?_, fun x hx hf => ?_⟩
  · have : x = m := (addS_iff.1 hx).resolve_right fun h => by rw [h] at hs; cases hs
    subst this
    unfold Closed; rw [hh, if_pos rfl]; exact addS_same _ _
  · have : x = m := (addS_iff.1 hx).resolve_right fun h => by rw [h] at hf; cases hf
    subst this
    exact ⟨hh, addS_same _ _⟩
/-- A set that does not hit: what is made of it has been seen. -/
theorem Step.more {F : List Nat} {Sn Fd Sn' Fd' : Nat → Bool} {m y : Nat} (hy : y ∈ F) (h0 : y &&& m = 0) (k : Step F (addS Sn m) Fd Sn' Fd') (hall : ∀ j, y.testBit j = true → Sn' (m ||| 2 ^ j) = true) : Step F Sn Fd Sn' Fd' := by
  refine ⟨fun x hx => k.sn x (addS_old hx), k.fd, fun x hx hs => ?_, k.hits⟩
  cases h1 : addS Sn m x with
  | false => exact k.new x hx h1
  | true =>
    have : x = m := (addS_iff.1 h1).resolve_right fun h => by rw [h] at hs; cases hs
    subst this
    unfold Closed
    have hh : hit F x = false := by
      cases hb : hit F x with
      | false => rfl
      | true => exact absurd h0 (hit_iff.1 hb y hy)
    rw [hh, if_neg (by decide)]
    exact ⟨y, hy, h0, hall⟩
/-- At the end: each smallest set that hits has been found. -/
theorem found_all {F : List Nat} {Sn Fd : Nat → Bool} (h : Step F (fun _ => false) (fun _ => false) Sn Fd) (h0 : Sn 0 = true) : (∀ x, Fd x = true → hit F x = true) ∧ ∀ m, m < 256 → Min F m → Fd m = true := by
  refine ⟨fun x hx => (h.hits x hx rfl).1, fun m hm hmin => ?_⟩
  have key : ∀ (n x : Nat), m ≤ x + n → prt x m → Sn x = true → Fd m = true := by
    intro n
    induction n with
    | zero =>
      intro x hn hp hs
      have hle := part_le hp
      have : x = m := by omega
      subst this
      have := h.new x hs rfl
      unfold Closed at this
      rw [hmin.1, if_pos rfl] at this
      exact this
    | succ n ih =>
      intro x hn hp hs
      have hc := h.new x hs rfl
      unfold Closed at hc
      cases hh : hit F x with
      | true => rw [hh, if_pos rfl] at hc; rw [← hmin.2 x hp hh]; exact hc
      | false =>
        rw [hh, if_neg (by decide)] at hc
        obtain ⟨y, hy, hyx, hall⟩ := hc
        obtain ⟨j, h1, h2⟩ := meet_iff.1 (hit_iff.1 hmin.1 y hy)
        have hxj : x.testBit j = false := by
          cases hb : x.testBit j with
          | false => rfl
          | true => exact absurd ⟨h1, hb⟩ (and_zero.1 hyx j)
        have hp2 : prt (x ||| 2 ^ j) m := part_iff.2 fun i hi => by
          rw [Nat.testBit_or, Bool.or_eq_true, Nat.testBit_two_pow, decide_eq_true_eq] at hi
          rcases hi with hi | hi
          · exact part_iff.1 hp i hi
          · rw [← hi]; exact h2
        have hgt : x < x ||| 2 ^ j := by
          have hle : x ≤ x ||| 2 ^ j := Nat.left_le_or
          have hne : x ≠ x ||| 2 ^ j := fun e => by
            have : (x ||| 2 ^ j).testBit j = true := by rw [Nat.testBit_or, Nat.testBit_two_pow]; simp
            rw [← e, hxj] at this; cases this
          omega
        exact ih _ (by omega) hp2 (hall j h1)
  exact key m 0 (by omega) (part_zero m) h0
end Go.Proofs.YtmlbgfnddgbpbaaGreat
