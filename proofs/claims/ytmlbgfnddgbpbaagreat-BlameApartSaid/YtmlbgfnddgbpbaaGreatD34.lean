/-
The map of package blame's search for sets that are apart: its keys, and what it holds.
The walks of package blame: the search for sets that are apart.
The walk of package blame's Apart.
-/
import Derived.Test.YtmlbgfnddgbpbaaGreatD19
import Derived.Test.YtmlbgfnddgbpbaaGreatD05
import Derived.Test.YtmlbgfnddgbpbaaGreatD13
import Derived.DeepKeys4
import Derived.ProofKit
import Derived.Test.YtmlbgfnddgbpbaaGreatD28
import Derived.Test.YtmlbgfnddgbpbaaGreatD02
namespace Go.Proofs.YtmlbgfnddgbpbaaGreat
open Go.RowKit
open Mk Bm
open Go.Maps (Keyed)

theorem laidA : laidOutB Tryz.prog = true := by kernel_rfl
set_option maxRecDepth 100000 in
theorem lawA : Keyed Tryz.prog 98 := Keyed.of_law (deep_law_laid laidA (m := 2) (by omega) (of_decide_eq_true (by kernel_rfl)) (by kernel_rfl) (by rw [Tryz.underlying98]))
def askV (a b : Int) : Value := .agg #[.int .i64 a, .int .i64 b]
set_option maxRecDepth 100000 in
theorem key_ask {a b : Int} (ha : (Lit.int .i64 a).wf = true) (hb : (Lit.int .i64 b).wf = true) : ∃ kl, keyOf Tryz.prog 98 (askV a b) = some kl := by
  unfold askV
  have hs : ∃ n, Tryz.prog.types.size + 1 = n + 1 + 1 := ⟨Tryz.prog.types.size - 1, by have : 1 ≤ Tryz.prog.types.size := of_decide_eq_true (by kernel_rfl); omega⟩
  obtain ⟨n, hn⟩ := hs
  have h3 : ∀ x : Int, (Lit.int .i64 x).wf = true → Tryz.prog.keyLits (n + 1) 3 [.int .i64 x] = some [.int .i64 x] := fun x hx => by
    unfold Program.keyLits
    rw [Tryz.underlying3]
    simp [hx]
  have hc3 : Tryz.prog.cellsOf 3 = 1 := by kernel_rfl
  have hc98 : Tryz.prog.cellsOf 98 = 2 := by kernel_rfl
  have h98 : ∃ ls, Tryz.prog.keyLits (n + 1 + 1) 98 [.int .i64 a, .int .i64 b] = some ls := by
    unfold Program.keyLits
    rw [Tryz.underlying98]
    simp [hc3, hc98, h3 a ha, h3 b hb, List.mapM_cons]
  obtain ⟨ls, hls⟩ := h98
  have hf : (Value.agg #[.int .i64 a, .int .i64 b]).formed Tryz.prog 98 = true := by simp [Value.formed, Tryz.underlying98, hc98]
  have hk : Tryz.prog.keyType 98 = true := by kernel_rfl
  refine ⟨.string (keyBytes ls), ?_⟩
  unfold keyOf
  rw [Tryz.underlying98]
  simp only [hk, hf, hn, Bool.and_true, if_true]
  rw [show (Value.agg #[.int .i64 a, .int .i64 b]).cells.toList = [.int .i64 a, .int .i64 b] from rfl, hls]
  rfl
theorem key_ne {a b a' b' : Int} {kl kl' : Lit} (h : keyOf Tryz.prog 98 (askV a b) = some kl) (h' : keyOf Tryz.prog 98 (askV a' b') = some kl') (hne : ¬ (a = a' ∧ b = b')) : kl' ≠ kl := by
  intro e
  subst e
  have := lawA.inj h h'
  unfold askV at this
  simp at this
  exact hne this
/-- How a list that lies in a map reads: as itself. -/
def sliR (v : Value) : Option (DataW Value × List MemPlace) := match v with | .slice a n c => some (.held (.slice a n c), []) | _ => none
theorem sliR_mk (a : Option Addr) (n c : Nat) : sliR (.slice a n c) = some (.held (.slice a n c), []) := rfl
theorem sliR_inv {v : Value} {y : DataW Value × List MemPlace} (h : sliR v = some y) : ∃ a n c, v = .slice a n c ∧ y = (.held (.slice a n c), []) := by
  unfold sliR at h
  split at h
  · exact ⟨_, _, _, rfl, (Option.some.inj h).symm⟩
  · cases h
theorem zero_sli (w : World) : (zeroValue 29).run Tryz.prog w = .ok (.slice none 0 0) w := by kernel_rfl
/-- The slice lies in no block of Av. -/
def OffA (Av : Nat → Prop) (v : Value) : Prop := ∀ b o n c, v = .slice (some ⟨b, o, none⟩) n c → ¬ Av b
theorem OffA.nil (Av : Nat → Prop) : OffA Av (.slice none 0 0) := fun _ _ _ _ e => by cases e
/-- The places of the answer, as numbers. -/
def cd (p u : Nat) : Nat := p * 256 + u
theorem cd_inj {p u q x : Nat} (hu : u < 256) (hx : x < 256) (h : cd p u = cd q x) : p = q ∧ u = x := by unfold cd at h; omega
/-- What the map holds: the answers at the places of S. -/
structure KnownS (F : List Nat) (Av : Nat → Prop) (S : Nat → Bool) (D : DataW Value) (W : World) : Prop where
  yes : ∀ (p u : Nat) (kl : Lit), p ≤ 70 → u < 256 → keyOf Tryz.prog 98 (askV (p : Int) (u : Int)) = some kl → S (cd p u) = true → ∃ a n c, (∀ z, D.atKey kl z = .held (.slice a n c)) ∧ IntsAt W (.slice a n c) (nI (Apt.most F p u)) ∧ (nI (Apt.most F p u) ≠ [] → OffA Av (.slice a n c))
  no : ∀ (p u : Nat) (kl : Lit), p ≤ 70 → u < 256 → keyOf Tryz.prog 98 (askV (p : Int) (u : Int)) = some kl → S (cd p u) = false → ∀ z, D.atKey kl z = z
theorem KnownS.start (F : List Nat) (Av : Nat → Prop) (W : World) : KnownS F Av (fun _ => false) (.map []) W := ⟨fun _ _ _ _ _ _ h => (by cases h), fun _ _ _ _ _ _ _ _ => rfl⟩
theorem KnownS.put {F : List Nat} {Av : Nat → Prop} {S : Nat → Bool} {D : DataW Value} {W : World} (h : KnownS F Av S D W) (hD : Go.Maps.IsMap D) {p u : Nat} (hp : p ≤ 70) (hu : u < 256) {kl : Lit} (hk : keyOf Tryz.prog 98 (askV (p : Int) (u : Int)) = some kl) {a : Option Addr} {n c : Nat} (hi : IntsAt W (.slice a n c) (nI (Apt.most F p u))) (ho : nI (Apt.most F p u) ≠ [] → OffA Av (.slice a n c)) :
    KnownS F Av (addS S (cd p u)) (D.put kl (.held (.slice a n c))) W := by
  refine ⟨fun q x kl' hq hx hk' hs => ?_, fun q x kl' hq hx hk' hs => ?_⟩
  · by_cases e : q = p ∧ x = u
    · obtain ⟨rfl, rfl⟩ := e
      have : kl' = kl := by rw [hk] at hk'; exact (Option.some.inj hk').symm
      subst this
      exact ⟨a, n, c, fun z => Go.Maps.atKey_put_same hD (lawA.key hk) _ _, hi, ho⟩
    · have hne := key_ne hk hk' (fun e2 => e ⟨by omega, by omega⟩)
      have hs2 : S (cd q x) = true := (addS_iff.1 hs).resolve_left fun e2 => e (cd_inj hx hu e2)
      obtain ⟨a', n', c', h1, h2, h3⟩ := h.yes q x kl' hq hx hk' hs2
      exact ⟨a', n', c', fun z => by rw [Go.Maps.atKey_put_other hne]; exact h1 z, h2, h3⟩
  · have e : ¬ (q = p ∧ x = u) := fun e => by obtain ⟨rfl, rfl⟩ := e; rw [addS_same] at hs; cases hs
    have hne := key_ne hk hk' (fun e2 => e ⟨by omega, by omega⟩)
    intro z
    rw [Go.Maps.atKey_put_other hne]
    refine h.no q x kl' hq hx hk' ?_ z
    cases hb : S (cd q x) with
    | false => rfl
    | true => rw [addS_old hb] at hs; cases hs
theorem KnownS.world {F : List Nat} {Av : Nat → Prop} {S : Nat → Bool} {D : DataW Value} {W W' : World} (h : KnownS F Av S D W) (hk : ∀ a n c xs, IntsAt W (.slice a n c) xs → (xs ≠ [] → OffA Av (.slice a n c)) → IntsAt W' (.slice a n c) xs) : KnownS F Av S D W' :=
  ⟨fun p u kl hp hu hkl hs => let ⟨a, n, c, h1, h2, h3⟩ := h.yes p u kl hp hu hkl hs; ⟨a, n, c, h1, hk _ _ _ _ h2 h3, h3⟩, h.no⟩
theorem KnownS.more {F : List Nat} {Av Av' : Nat → Prop} {S : Nat → Bool} {D : DataW Value} {W : World} (h : KnownS F Av S D W) (hk : ∀ a n c xs, IntsAt W (.slice a n c) xs → xs ≠ [] → OffA Av (.slice a n c) → OffA Av' (.slice a n c)) : KnownS F Av' S D W :=
  ⟨fun p u kl hp hu hkl hs => let ⟨a, n, c, h1, h2, h3⟩ := h.yes p u kl hp hu hkl hs; ⟨a, n, c, h1, h2, fun hne => hk a n c _ h2 hne (h3 hne)⟩, h.no⟩
def cardN (S : Nat → Bool) : Nat := ((List.range 20000).filter S).length
theorem cardN_le (S : Nat → Bool) : cardN S ≤ 20000 := by unfold cardN; have := List.length_filter_le S (List.range 20000); simpa using this
theorem cardN_add {S : Nat → Bool} {m : Nat} (hm : m < 20000) (h : S m = false) : cardN S + 1 ≤ cardN (addS S m) := by
  have key : ∀ l : List Nat, (l.filter S).length + (if m ∈ l then 1 else 0) ≤ (l.filter (addS S m)).length := by
    intro l
    induction l with
    | nil => simp
    | cons x r ih =>
      rw [List.filter_cons, List.filter_cons]
      by_cases e : x = m
      · subst e
        rw [h, addS_same, if_pos rfl, if_neg (by decide), if_pos (by simp), List.length_cons]
        split at ih <;> omega
      · have hmm : (m ∈ x :: r) ↔ m ∈ r := by rw [List.mem_cons]; exact ⟨fun h => h.resolve_left fun e2 => e e2.symm, .inr⟩
        have hxs : addS S m x = S x := by unfold addS; rw [decide_eq_false e, Bool.false_or]
        rw [hxs]
        simp only [hmm]
        cases S x
        · simpa using ih
        · simp only [if_true, List.length_cons]; omega
  have := key (List.range 20000)
  rw [if_pos (List.mem_range.2 hm)] at this
  exact this

/-- A list survives where its block is kept. -/
theorem ints_keep {W W' : World} {a : Option Addr} {n c : Nat} {xs : List Int} (h : IntsAt W (.slice a n c) xs) (hz : W.heap.size ≤ W'.heap.size) (hk : ∀ b o, a = some ⟨b, o, none⟩ → b < W.heap.size → xs ≠ [] → W'.heap[b]? = W.heap[b]?) : IntsAt W' (.slice a n c) xs := by
  by_cases hx : xs = []
  · subst hx
    obtain ⟨a', c', e, h1, h2, h3⟩ := h
    cases e
    exact ⟨a, c, rfl, h1, h2, .inl ⟨rfl, fun e => by
      rcases h3 with ⟨_, h3⟩ | ⟨b, o, h3, _⟩
      · exact h3 e
      · rw [h3] at e; cases e⟩⟩
  · obtain ⟨a', c', e, h1, h2, h3⟩ := h
    cases e
    refine ⟨a, c, rfl, h1, h2, ?_⟩
    rcases h3 with ⟨h3, _⟩ | ⟨b, o, e, hb, h3⟩
    · exact absurd h3 hx
    · refine .inr ⟨b, o, e, Nat.lt_of_lt_of_le hb hz, fun j x hj i u hu => ?_⟩
      have := hk b o e hb hx
      have hc := h3 j x hj i u hu
      unfold World.cell? at *
      rw [this]; exact hc
theorem ints_blt {W : World} {b o n c : Nat} {xs : List Int} (h : IntsAt W (.slice (some ⟨b, o, none⟩) n c) xs) (hne : xs ≠ []) : b < W.heap.size := by
  obtain ⟨a', c', e, _, _, h3⟩ := h
  cases e
  rcases h3 with ⟨h3, _⟩ | ⟨b', o', e, hb, _⟩
  · exact absurd h3 hne
  · cases e; exact hb
def mostV (bs bk bm : Nat) : Value := .func (.func 105) #[] #[.pointer (some ⟨bs, 0, none⟩), .pointer (some ⟨bk, 0, none⟩), .pointer (some ⟨bm, 0, none⟩)]
structure MI (F : List Nat) (sv : Value) (bs bk bm bkm : Nat) (Av : Nat → Prop) (S : Nat → Bool) (W : World) : Prop where
  hs : W.heap[bs]? = some (.cells #[sv] 29 (0, 0))
  hk : W.heap[bk]? = some (.cells #[.map (some bkm)] 95 (0, 0))
  hm : W.heap[bm]? = some (.cells #[mostV bs bk bm] 96 (0, 0))
  sets : IntsAt W sv (nI F)
  map : ∃ n D, n ≤ cardN S ∧ W.ownsMap Tryz.prog 98 sliR bkm n D ∧ KnownS F Av S D W
/-- The map lies apart from all that. -/
structure MN (F : List Nat) (sv : Value) (bs bk bm bkm : Nat) : Prop where
  m1 : bs ≠ bkm
  m2 : bk ≠ bkm
  m3 : bm ≠ bkm
  m4 : nI F ≠ [] → ∀ b o n c, sv = .slice (some ⟨b, o, none⟩) n c → b ≠ bkm
theorem MI.grow {F : List Nat} {sv : Value} {bs bk bm bkm : Nat} {Av : Nat → Prop} {S : Nat → Bool} {W W' : World} (h : MI F sv bs bk bm bkm Av S W) (g : Grow W W') : MI F sv bs bk bm bkm Av S W' :=
  ⟨g.blk h.hs, g.blk h.hk, g.blk h.hm, h.sets.grow g, let ⟨n, D, h1, h2, h3⟩ := h.map; ⟨n, D, h1, h2.kept (g.grownBy none) (by simp), h3.world fun _ _ _ _ hi _ => hi.grow g⟩⟩
theorem MI.avoid {F : List Nat} {sv : Value} {bs bk bm bkm : Nat} {Av : Nat → Prop} {S : Nat → Bool} {W : World} (h : MI F sv bs bk bm bkm Av S W) {W0 : World} (hg : Grow W0 W) (h0 : MI F sv bs bk bm bkm Av S W0) {g : Nat} (hgz : W0.heap.size ≤ g) : MI F sv bs bk bm bkm (fun b => Av b ∨ b = g) S W := by
  refine ⟨h.hs, h.hk, h.hm, h.sets, ?_⟩
  obtain ⟨n, D, h1, h2, h3⟩ := h0.map
  refine ⟨n, D, h1, h2.kept (hg.grownBy none) (by simp), ?_⟩
  have h4 : KnownS F (fun b => Av b ∨ b = g) S D W0 := h3.more fun a n c xs hi hne ho b o n' c' e => by
    cases e
    have := ints_blt hi hne
    rintro (h5 | h5)
    · exact ho b o _ _ rfl h5
    · omega
  exact h4.world fun _ _ _ _ hi _ => hi.grow hg
/-- A block that is avoided has turned. -/
theorem MI.turn {F : List Nat} {sv : Value} {bs bk bm bkm : Nat} {Av : Nat → Prop} {S : Nat → Bool} {W W' : World} {g : Nat} (h : MI F sv bs bk bm bkm (fun b => Av b ∨ b = g) S W) (hg : W.grownBy W' (some g)) (h1 : bs ≠ g) (h2 : bk ≠ g) (h3 : bm ≠ g) (h4 : bkm ≠ g) (h5 : nI F ≠ [] → ∀ b o n c, sv = .slice (some ⟨b, o, none⟩) n c → b ≠ g) : MI F sv bs bk bm bkm Av S W' := by
  have kb : ∀ {k : Nat} {o : Obj}, W.heap[k]? = some o → k ≠ g → W'.heap[k]? = some o := fun hk hne => (hg.block _ (lt_of_block hk) (fun e => hne (Option.some.inj e))).trans hk
  obtain ⟨n, D, q1, q2, q3⟩ := h.map
  refine ⟨kb h.hs h1, kb h.hk h2, kb h.hm h3, ?_, n, D, q1, q2.kept hg (fun e => h4 (Option.some.inj e)), ?_⟩
  · obtain ⟨a, c, e, _⟩ := h.sets
    subst e
    exact ints_keep h.sets hg.size fun b o e hb hne => hg.block b hb (fun e2 => h5 hne b o _ _ (by rw [e]) (Option.some.inj e2))
  · have q4 := q3.world (W' := W') fun a n c xs hi ho => ints_keep hi hg.size fun b o e hb hne => hg.block b hb (fun e2 => ho hne b o n c (by rw [e]) (.inr (Option.some.inj e2)))
    exact q4.more fun a n c xs _ _ ho b o n' c' e h => ho b o n' c' e (.inl h)
/-- One more answer. -/
theorem MI.put {F : List Nat} {sv : Value} {bs bk bm bkm : Nat} {Av : Nat → Prop} {S : Nat → Bool} {W W' : World} {n : Nat} {D : DataW Value} (h : MI F sv bs bk bm bkm Av S W) (hN : MN F sv bs bk bm bkm) (hAv : Av bkm) (hn : n ≤ cardN S) (hD : Go.Maps.IsMap D) (hK : KnownS F Av S D W) {p u : Nat} (hp : p ≤ 70) (hu : u < 256) {kl : Lit} (hk : keyOf Tryz.prog 98 (askV (p : Int) (u : Int)) = some kl) (hnew : S (cd p u) = false)
    {a : Option Addr} {m c : Nat} (hi : IntsAt W (.slice a m c) (nI (Apt.most F p u))) (ho : nI (Apt.most F p u) ≠ [] → OffA Av (.slice a m c)) (hown : W'.ownsMap Tryz.prog 98 sliR bkm (n + 1) (D.put kl (.held (.slice a m c)))) (hg : W.grownBy W' (some bkm)) : MI F sv bs bk bm bkm Av (addS S (cd p u)) W' := by
  have kb : ∀ {k : Nat} {o : Obj}, W.heap[k]? = some o → k ≠ bkm → W'.heap[k]? = some o := fun hk hne => (hg.block _ (lt_of_block hk) (fun e => hne (Option.some.inj e))).trans hk
  refine ⟨kb h.hs hN.m1, kb h.hk hN.m2, kb h.hm hN.m3, ?_, n + 1, _, ?_, hown, ?_⟩
  · obtain ⟨a, c, e, _⟩ := h.sets
    subst e
    exact ints_keep h.sets hg.size fun b o e hb hne => hg.block b hb (fun e2 => hN.m4 hne b o _ _ (by rw [e]) (Option.some.inj e2))
  · have := cardN_add (S := S) (m := cd p u) (by unfold cd; omega) hnew; omega
  · exact (hK.put hD hp hu hk hi ho).world fun a n c xs hi ho => ints_keep hi hg.size fun b o e hb hne => hg.block b hb (fun e2 => by
      have := ho hne b o n c (by rw [e])
      rw [Option.some.inj e2] at this; exact this hAv)
theorem But.ints {r : Nat} {W W' : World} (h : But r r W W') {a : Option Addr} {n c : Nat} {xs : List Int} (hi : IntsAt W (.slice a n c) xs) (ho : xs ≠ [] → ∀ b o, a = some ⟨b, o, none⟩ → b ≠ r) : IntsAt W' (.slice a n c) xs :=
  ints_keep hi h.size fun b o e hb hne => h.block b hb (ho hne b o e) (ho hne b o e)
end Go.Proofs.YtmlbgfnddgbpbaaGreat

namespace Go.Proofs.YtmlbgfnddgbpbaaGreat
open Go.RowKit
open Mk Bm

theorem most_no {F : List Nat} {p u x : Nat} (h : F[p]? = some x) (hc : ¬ (x ≠ 0 ∧ x &&& u = 0)) : Apt.most F p u = Apt.most F (p + 1) u := by rw [Apt.most_at h, if_neg hc]
theorem most_more {F : List Nat} {p u x : Nat} (h : F[p]? = some x) (hc : x ≠ 0 ∧ x &&& u = 0) (hl : (Apt.most F (p + 1) u).length ≤ (Apt.most F (p + 1) (u ||| x)).length + 1) : nI (Apt.most F p u) = [(p : Int)] ++ nI (Apt.most F (p + 1) (u ||| x)) := by
  rw [Apt.most_at h, if_pos hc, if_pos hl]; rfl
theorem most_less {F : List Nat} {p u x : Nat} (h : F[p]? = some x) (hc : x ≠ 0 ∧ x &&& u = 0) (hl : ¬ (Apt.most F (p + 1) u).length ≤ (Apt.most F (p + 1) (u ||| x)).length + 1) : Apt.most F p u = Apt.most F (p + 1) u := by rw [Apt.most_at h, if_pos hc, if_neg hl]
theorem most_len {F : List Nat} : ∀ (n p u : Nat), F.length ≤ p + n → (Apt.most F p u).length ≤ n
  | 0, p, u, h => by rw [Apt.most_end (by omega)]; simp
  | n + 1, p, u, h => by
    by_cases hp : p < F.length
    · rw [Apt.most_at (List.getElem?_eq_getElem hp)]
      have h1 := most_len (F := F) n (p + 1) u (by omega)
      have h2 := most_len (F := F) n (p + 1) (u ||| F[p]) (by omega)
      split
      · split
        · rw [List.length_cons]; omega
        · omega
      · omega
    · rw [Apt.most_end (by omega)]; simp
theorem small_wf {n : Nat} (h : n < 1000000) : (Lit.int .i64 (n : Int)).wf = true := WalkArith.wf_i64 (by omega)
theorem or_lt8 {a b : Nat} (ha : a < 256) (hb : b < 256) : a ||| b < 256 := Nat.or_lt_two_pow (n := 8) ha hb
set_option maxRecDepth 100000 in
set_option maxHeartbeats 32000000 in
theorem most_any (F : List Nat) (hF : ∀ x ∈ F, x < 256) (hl : F.length ≤ 70) (sv : Value) (bs bk bm bkm : Nat) (hN : MN F sv bs bk bm bkm) :
    ∀ (d p u : Nat), F.length = p + d → u < 256 → ∀ (Av : Nat → Prop) (S : Nat → Bool) (W : World), Av bkm → (∀ b, Av b → b < W.heap.size) → MI F sv bs bk bm bkm Av S W →
    ∀ R : Ending → World → Prop, (∀ W' v S', MI F sv bs bk bm bkm Av S' W' → But bkm bkm W W' → (∀ q x, q < p → x < 256 → S' (cd q x) = S (cd q x)) → IntsAt W' v (nI (Apt.most F p u)) → (nI (Apt.most F p u) ≠ [] → OffA Av v) → R (.returned v) W') →
    Calls Tryz.prog 105 #[.int .i64 (p : Int), .int .i64 (u : Int), .pointer (some ⟨bs, 0, none⟩), .pointer (some ⟨bk, 0, none⟩), .pointer (some ⟨bm, 0, none⟩)] W R := by
  intro d
  induction d with
  | zero =>
    intro p u hd hu Av S W hA hlt hI R hR
    have hr := hR W (.slice none 0 0) S hI (But.refl _) (fun _ _ _ _ => rfl) (by rw [Apt.most_end (by omega)]; exact SlcAt.nil _ _ _) (fun _ => OffA.nil _)
    have c0 := box1 hI.hs
    have z0 := lt_of_block hI.hs
    obtain ⟨sa, sc, hsv, _⟩ := hI.sets
    rw [hsv, nI_len] at c0
    have t1 : ((p : Int) == (F.length : Int)) = true := by rw [hd]; simp
    have t3 : (p : Int) = (F.length : Int) := by omega
    have HR := Lib.hid hr
    clear hr hR hI hsv hd
    go_enter Tryz.func105, Tryz.ntmps105
    go_wp2_with fail
    exact HR.out
  | succ d ih =>
    intro p u hd hu Av S W hA hlt hI R hR
    have IH := Lib.hid ih
    have HN := Lib.hid hN
    have HR := Lib.hid hR
    have HI := Lib.hid hI
    have HAV := Lib.hid hA
    have HLT := Lib.hid hlt
    have HD := Lib.hid hd
    have hpl : p < F.length := by omega
    obtain ⟨x, hx⟩ : ∃ x, F[p]? = some x := ⟨_, List.getElem?_eq_getElem hpl⟩
    have hx256 := hF x (List.mem_of_getElem? hx)
    have HX := Lib.hid hx
    have hp70 : p ≤ 70 := by omega
    obtain ⟨kl, hkl⟩ := key_ask (small_wf (n := p) (by omega)) (small_wf (n := u) (by omega))
    have HKL := Lib.hid hkl
    obtain ⟨sa, sc, hsv, _⟩ := hI.sets
    rw [nI_len] at hsv
    have HSV := Lib.hid hsv
    have c0 := box1 hI.hs
    have z0 := lt_of_block hI.hs
    rw [hsv] at c0
    have t3 : ¬ (p : Int) = (F.length : Int) := by omega
    have t1 : ((p : Int) == (F.length : Int)) = false := beq_eq_false_iff_ne.2 t3
    have hg1 := (Grow.refl W).alloc (.cells #[.int .i64 (p : Int), .int .i64 (u : Int)] 98)
    have hb1 := heap_alloc_new W (.cells #[.int .i64 (p : Int), .int .i64 (u : Int)] 98)
    have hI1 := hI.grow hg1
    obtain ⟨a0, a1⟩ := box2 hb1
    have za := lt_of_block hb1
    have c1 := box1 hI1.hk
    have z1 := lt_of_block hI1.hk
    have HB1 := Lib.hid hb1
    have HG1 := Lib.hid hg1
    have HI1 := Lib.hid hI1
    have hWs : ∀ k, k = bs ∨ k = bk ∨ k = bm ∨ k = bkm → k < W.heap.size := fun k hk => by
      rcases hk with rfl | rfl | rfl | rfl
      · exact lt_of_block hI.hs
      · exact lt_of_block hI.hk
      · exact lt_of_block hI.hm
      · exact hlt _ hA
    have HWS := Lib.hid hWs
    clear ih hR hI hA hlt hd hx hsv hkl t3 hb1 hg1 hI1 hWs
    go_enter Tryz.func105, Tryz.ntmps105
    go_wp2_with (at_lookup; refine Classical.byContradiction (fun hcon => ?_))
    refine hcon ?_
    clear hcon
    obtain ⟨n1, D1, hn1, ho1, hk1⟩ := HI1.out.map
    have HO1 := Lib.hid ho1
    have HK1 := Lib.hid hk1
    clear ho1 hk1 a0 a1 c1 c0
    refine wpList_lookup_own_ok _ rfl _ _ 95 rfl 98 29 lawA Tryz.underlying95 sliR (zero_sli _) (.held (.slice none 0 0)) [] (sliR_mk _ _ _) bkm n1 D1 rfl HO1.out (askV (p : Int) (u : Int)) kl rfl HKL.out ?_
    intro v ps hv
    obtain ⟨va, vn, vc, rfl, hve⟩ := sliR_inv hv
    have HVE := Lib.hid hve
    clear hv hve
    cases hS : S (cd p u) with
    | true =>
      obtain ⟨ka, kn, kc, q1, q2, q3⟩ := HK1.out.yes p u kl hp70 hu HKL.out hS
      have hhas := Go.Maps.has_true_of_atKey q1
      have heq : (Value.slice va vn vc) = .slice ka kn kc := by
        have h := HVE.out
        rw [q1] at h
        cases h; rfl
      cases heq
      rw [hhas]
      have HF := Lib.hid (HR.out _ _ S HI1.out (But.of_grow HG1.out) (fun _ _ _ _ => rfl) q2 q3)
      clear q1 q2 q3 hS hhas
      go_wp2_with fail
      exact HF.out
    | false =>
      have hhas := Go.Maps.has_false_of_atKey (HK1.out.no p u kl hp70 hu HKL.out hS)
      rw [hhas]
      have HS := Lib.hid hS
      have c2 := box1 HI1.out.hm
      have z2 := lt_of_block HI1.out.hm
      unfold mostV at c2
      have hwp : IntKind.i64.wrap ((p : Int) + 1) = (p : Int) + 1 := IntWalk.i64_in _ (by omega)
      clear hhas hS HVE hn1 HO1 HK1
      go_wp2_with fail
      clear c2
      rw [show (p : Int) + 1 = ((p + 1 : Nat) : Int) by omega]
      refine IH.out (p + 1) u (by have := HD.out; omega) hu Av S _ HAV.out (fun b hb => by have := HLT.out b hb; have := HG1.out.sz; omega) HI1.out _ ?_
      intro W2 v2 S2 hI2 hB2 hS2 hv2 ho2
      obtain ⟨L2, hL2⟩ : ∃ z, Apt.most F (p + 1) u = z := ⟨_, rfl⟩
      rw [hL2] at hv2 ho2
      obtain ⟨a2, c2, hve, jk2⟩ := hv2
      subst hve
      have hv2 : IntsAt W2 (.slice a2 (nI L2).length c2) (nI L2) := ⟨a2, c2, rfl, jk2⟩
      rw [nI_len] at hv2 ho2 ⊢
      have HL2 := Lib.hid hL2
      have HI2 := Lib.hid hI2
      have HBU2 := Lib.hid ((But.of_grow HG1.out).trans hB2)
      have HSS2 := Lib.hid hS2
      have HV2 := Lib.hid hv2
      have HO2 := Lib.hid ho2
      have hz2 := hB2.size
      have hzz := HG1.out.sz
      have hbk := HWS.out bkm (.inr (.inr (.inr rfl)))
      have HBA := Lib.hid (hB2.blk HB1.out (by omega) (by omega))
      have hsets := hI2.sets
      rw [HSV.out] at hsets
      obtain ⟨sb, so, hsa, hsb, e0⟩ := ints_at hsets (nI_at HX.out)
      subst hsa
      have cs := box1 hI2.hs
      have zs := lt_of_block hI2.hs
      rw [HSV.out] at cs
      obtain ⟨a0, a1⟩ := box2 HBA.out
      have za2 := lt_of_block HBA.out
      have ck := box1 hI2.hk
      have zk := lt_of_block hI2.hk
      have hpl2 : (p : Int) < (F.length : Int) := by omega
      have hl2b := most_len (F := F) F.length (p + 1) u (by omega)
      rw [hL2] at hl2b
      have hand := Mk.bits_and x u (by omega) (by omega)
      clear hL2 hI2 hB2 hS2 hv2 ho2 jk2 hsets za
      by_cases hx0 : x = 0
      · have hcn : ¬ (x ≠ 0 ∧ x &&& u = 0) := fun h => h.1 hx0
        have t4 : ((x : Int) != 0) = false := by rw [hx0]; rfl
        have hmn := most_no HX.out hcn
        rw [HL2.out] at hmn
        have HV3 := Lib.hid (show IntsAt W2 (.slice a2 L2.length c2) (nI (Apt.most F p u)) by rw [hmn]; exact HV2.out)
        have HO3 := Lib.hid (show nI (Apt.most F p u) ≠ [] → OffA Av (.slice a2 L2.length c2) by rw [hmn]; exact HO2.out)
        clear hmn hcn
        go_wp2_with (at_mapUpdate; refine Classical.byContradiction (fun hcon => ?_))
        refine hcon ?_
        clear hcon
        obtain ⟨n5, D5, hn5, ho5, hk5⟩ := HI2.out.map
        have hnew : S2 (cd p u) = false := by rw [HSS2.out p u (by omega) hu]; exact HS.out
        refine wpList_mapUpdate_own _ rfl _ _ _ 95 rfl 98 29 lawA Tryz.underlying95 sliR bkm n5 D5 rfl ho5 (by have := cardN_le S2; unfold maxLen; omega) (askV (p : Int) (u : Int)) (.slice a2 L2.length c2) kl rfl rfl HKL.out (.held (.slice a2 L2.length c2)) [] (sliR_mk _ _ _) ?_
        intro W9 hown9 hgr9
        have HF := Lib.hid (HR.out W9 (.slice a2 L2.length c2) (addS S2 (cd p u)) (HI2.out.put HN.out HAV.out hn5 ho5.isMap hk5 hp70 hu HKL.out hnew HV3.out HO3.out hown9 hgr9) (HBU2.out.trans (But.of_r hgr9)) (fun q y hq hy => by
            have hne : cd q y ≠ cd p u := fun e => by have := (cd_inj hy hu e).1; omega
            unfold addS; rw [decide_eq_false hne, Bool.false_or]; exact HSS2.out q y (by omega) hy)
          ((But.of_r hgr9).ints HV3.out (fun hne b o e h => HO3.out hne b o _ _ (by rw [e]) (h ▸ HAV.out))) HO3.out)
        clear hown9 hgr9 hnew ho5 hk5 hn5
        go_wp2_with fail
        exact HF.out
      have t4 : ((x : Int) != 0) = true := bne_iff_ne.2 (by omega)
      by_cases hxu : x &&& u = 0
      rotate_left
      · have hcn : ¬ (x ≠ 0 ∧ x &&& u = 0) := fun h => hxu h.2
        obtain ⟨z, hz⟩ : ∃ z, x &&& u = z := ⟨_, rfl⟩
        rw [hz] at hand hxu
        have t5 : ((z : Int) == 0) = false := beq_eq_false_iff_ne.2 (by omega)
        clear hz
        have hmn := most_no HX.out hcn
        rw [HL2.out] at hmn
        have HV3 := Lib.hid (show IntsAt W2 (.slice a2 L2.length c2) (nI (Apt.most F p u)) by rw [hmn]; exact HV2.out)
        have HO3 := Lib.hid (show nI (Apt.most F p u) ≠ [] → OffA Av (.slice a2 L2.length c2) by rw [hmn]; exact HO2.out)
        clear hmn hcn
        go_wp2_with (at_mapUpdate; refine Classical.byContradiction (fun hcon => ?_))
        refine hcon ?_
        clear hcon
        obtain ⟨n5, D5, hn5, ho5, hk5⟩ := HI2.out.map
        have hnew : S2 (cd p u) = false := by rw [HSS2.out p u (by omega) hu]; exact HS.out
        refine wpList_mapUpdate_own _ rfl _ _ _ 95 rfl 98 29 lawA Tryz.underlying95 sliR bkm n5 D5 rfl ho5 (by have := cardN_le S2; unfold maxLen; omega) (askV (p : Int) (u : Int)) (.slice a2 L2.length c2) kl rfl rfl HKL.out (.held (.slice a2 L2.length c2)) [] (sliR_mk _ _ _) ?_
        intro W9 hown9 hgr9
        have HF := Lib.hid (HR.out W9 (.slice a2 L2.length c2) (addS S2 (cd p u)) (HI2.out.put HN.out HAV.out hn5 ho5.isMap hk5 hp70 hu HKL.out hnew HV3.out HO3.out hown9 hgr9) (HBU2.out.trans (But.of_r hgr9)) (fun q y hq hy => by
            have hne : cd q y ≠ cd p u := fun e => by have := (cd_inj hy hu e).1; omega
            unfold addS; rw [decide_eq_false hne, Bool.false_or]; exact HSS2.out q y (by omega) hy)
          ((But.of_r hgr9).ints HV3.out (fun hne b o e h => HO3.out hne b o _ _ (by rw [e]) (h ▸ HAV.out))) HO3.out)
        clear hown9 hgr9 hnew ho5 hk5 hn5
        go_wp2_with fail
        exact HF.out
      rw [hxu] at hand
      have HCY := Lib.hid (show x ≠ 0 ∧ x &&& u = 0 from ⟨hx0, hxu⟩)
      have hor := Mk.bits_or u x hu hx256
      have cm := box1 HI2.out.hm
      have zm := lt_of_block HI2.out.hm
      unfold mostV at cm
      clear hx0 hxu
      go_wp2_with fail
      clear cm cs ck e0 a0 a1
      have hg3 := (Grow.refl W2).alloc (.cells #[.int .i64 (p : Int)] 3)
      have hb3 := heap_alloc_new W2 (.cells #[.int .i64 (p : Int)] 3)
      obtain ⟨g, hg⟩ : ∃ g, W2.heap.size = g := ⟨_, rfl⟩
      have hz3 : (W2.alloc (.cells #[.int .i64 (p : Int)] 3)).heap.size = g + 1 := by rw [World.size_alloc, hg]
      have hI3 := (HI2.out.grow hg3).avoid hg3 HI2.out (g := g) (by omega)
      have hWg : W.heap.size < g := by omega
      rw [hg] at hb3 ⊢
      generalize W2.alloc (.cells #[.int .i64 (p : Int)] 3) = W3 at hg3 hb3 hI3 hz3 ⊢
      first | rw [show (p : Int) + 1 = ((p + 1 : Nat) : Int) by omega] | skip
      refine IH.out (p + 1) (u ||| x) (by have := HD.out; omega) (or_lt8 hu hx256) (fun b => Av b ∨ b = g) S2 W3 (.inl HAV.out) (fun b hb => by rcases hb with hb | rfl; (have := HLT.out b hb; omega); omega) hI3 _ ?_
      intro W4 v4 S4 hI4 hB4 hS4 hv4 ho4
      obtain ⟨L4, hL4⟩ : ∃ z, Apt.most F (p + 1) (u ||| x) = z := ⟨_, rfl⟩
      rw [hL4] at hv4 ho4
      obtain ⟨a4, c4, hve, jk4⟩ := hv4
      subst hve
      have hv4 : IntsAt W4 (.slice a4 (nI L4).length c4) (nI L4) := ⟨a4, c4, rfl, jk4⟩
      have hl4b := most_len (F := F) F.length (p + 1) (u ||| x) (by omega)
      rw [hL4] at hl4b
      rw [nI_len] at hv4 ho4 ⊢
      have hbsg := HWS.out bs (.inl rfl)
      have hbkg := HWS.out bk (.inr (.inl rfl))
      have hbmg := HWS.out bm (.inr (.inr (.inl rfl)))
      have hgne : g ≠ bkm := by omega
      have hb4 := hB4.blk hb3 hgne hgne
      have hz4 := hB4.size
      have hown : W4.ownsRow g 3 1 (.slice (some ⟨g, 0, none⟩) 1 1) [(p : Int)].length ([(p : Int)].flatMap encI) := ⟨rfl, .inr ⟨g, 1, #[.int .i64 (p : Int)], rfl, Nat.le_refl _, hb4, Nat.le_refl _, by unfold maxLen; omega, rfl, rfl⟩⟩
      have HOWN := Lib.hid hown
      have HV4 := Lib.hid hv4
      have HI4 := Lib.hid hI4
      have HL4 := Lib.hid hL4
      have HBU4 := Lib.hid (HBU2.out.trans ((But.of_grow hg3).trans hB4))
      have HB24 := Lib.hid ((But.of_grow hg3).trans hB4)
      have HSS4 := Lib.hid (fun q y (hq : q < p + 1) (hy : y < 256) => (hS4 q y hq hy).trans (HSS2.out q y hq hy))
      have HGZ := Lib.hid hg
      clear hg3 hb3 hI3 hI4 hB4 hS4 hv4 ho4 hL4 jk4 hown hb4
      go_wp2_with (at_builtin; refine Classical.byContradiction (fun hcon => ?_))
      refine hcon ?_
      clear hcon
      refine wpList_appAll _ rfl (.tmp 47) (.tmp 54) 29 rfl g 3 Tryz.underlying29 info_int rfl (by decide) (by decide) encI encI_len encI_one _ [(p : Int)] rfl HOWN.out _ (nI L4) rfl (by rw [← nI_len L4] at HV4; first | exact HV4.out | (have h := HV4.out; rw [nI_len] at h; exact h)) (by rw [nI_len]; simp; omega) (by omega) ?_
      intro v5 W5 hown5 hgr5
      have hgr : W4.grownBy W5 (some g) := hgr5
      have hsvb : nI F ≠ [] → ∀ b o n c, sv = .slice (some ⟨b, o, none⟩) n c → b ≠ g := fun hne b o n c e => by have h := HI.out.sets; rw [e] at h; have := ints_blt h hne; omega
      have hI5 := HI4.out.turn hgr (by omega) (by omega) (by omega) (by omega) hsvb
      have hv5 := slc_of_owns encI_len hown5
      obtain ⟨a5, c5, hve, jk5⟩ := hv5
      subst hve
      have HV5 := Lib.hid (show IntsAt W5 (.slice a5 ([(p : Int)] ++ nI L4).length c5) ([(p : Int)] ++ nI L4) from ⟨a5, c5, rfl, jk5⟩)
      have HO5 := Lib.hid (show OffA Av (.slice a5 ([(p : Int)] ++ nI L4).length c5) from fun b o n c e h => by cases e; have := (hown5.lt b rfl).1; have := HLT.out b h; omega)
      have hn5 : ([(p : Int)] ++ nI L4).length = L4.length + 1 := by rw [List.length_append, nI_len]; simp; omega
      rw [hn5] at HV5 HO5 ⊢
      have HV25 := Lib.hid (show IntsAt W5 (.slice a2 L2.length c2) (nI L2) from by
        have h1 := HB24.out.ints HV2.out (fun hne b o e h => HO2.out hne b o _ _ (by rw [e]) (h ▸ HAV.out))
        exact ints_keep h1 hgr.size fun b o e hb hne => hgr.block b hb (fun e2 => by have h := HV2.out; rw [e] at h; have := ints_blt h hne; have := Option.some.inj e2; have := HGZ.out; omega))
      have HBU5 := Lib.hid (show But bkm bkm W W5 from ⟨hgr.os.trans HBU4.out.os, hgr.tape.trans HBU4.out.tape, hgr.output.trans HBU4.out.output, Nat.le_trans HBU4.out.size hgr.size, fun k hk h1 h2 => (hgr.block k (Nat.lt_of_lt_of_le hk HBU4.out.size) (fun e => by have := Option.some.inj e; omega)).trans (HBU4.out.block k hk h1 h2)⟩)
      have HI5 := Lib.hid hI5
      have ck := box1 hI5.hk
      have zk2 := lt_of_block hI5.hk
      have hba5 := (hgr.block W.heap.size (by have := HB24.out.size; have := HGZ.out; omega) (fun e => by have := Option.some.inj e; have := HGZ.out; omega)).trans (HB24.out.blk HBA.out (by omega) (by omega))
      obtain ⟨a0, a1⟩ := box2 hba5
      have za5 := lt_of_block hba5
      clear hown5 hgr5 hgr hI5 jk5 hn5 hsvb hba5 zk
      by_cases hle : L2.length ≤ L4.length + 1
      · have hmm := most_more HX.out HCY.out (by rw [HL2.out, HL4.out]; exact hle)
        rw [HL4.out] at hmm
        have HV6 := Lib.hid (show IntsAt W5 (.slice a5 (L4.length + 1) c5) (nI (Apt.most F p u)) by rw [hmm]; exact HV5.out)
        have HO6 := Lib.hid (show nI (Apt.most F p u) ≠ [] → OffA Av (.slice a5 (L4.length + 1) c5) from fun _ => HO5.out)
        have t5 : (((L4.length + 1 : Nat) : Int)) ≥ (L2.length : Int) := by omega
        have t6 : decide (L2.length ≤ L4.length + 1) = true := decide_eq_true hle
        obtain ⟨m5, hm5⟩ : ∃ m, L4.length + 1 = m := ⟨_, rfl⟩
        rw [hm5] at HV6 HO6 t5 t6 hle ⊢
        clear hmm hm5
        go_wp2_with (at_mapUpdate; refine Classical.byContradiction (fun hcon => ?_))
        refine hcon ?_
        clear hcon
        obtain ⟨n5, D5, hn5, ho5, hk5⟩ := HI5.out.map
        have hnew : S4 (cd p u) = false := by rw [HSS4.out p u (by omega) hu]; exact HS.out
        refine wpList_mapUpdate_own _ rfl _ _ _ 95 rfl 98 29 lawA Tryz.underlying95 sliR bkm n5 D5 rfl ho5 (by have := cardN_le S4; unfold maxLen; omega) (askV (p : Int) (u : Int)) (.slice a5 m5 c5) kl rfl rfl HKL.out (.held (.slice a5 m5 c5)) [] (sliR_mk _ _ _) ?_
        intro W9 hown9 hgr9
        have HF := Lib.hid (HR.out W9 (.slice a5 m5 c5) (addS S4 (cd p u)) (HI5.out.put HN.out HAV.out hn5 ho5.isMap hk5 hp70 hu HKL.out hnew HV6.out HO6.out hown9 hgr9) (HBU5.out.trans (But.of_r hgr9)) (fun q y hq hy => by
            have hne : cd q y ≠ cd p u := fun e => by have := (cd_inj hy hu e).1; omega
            unfold addS; rw [decide_eq_false hne, Bool.false_or]; exact HSS4.out q y (by omega) hy)
          ((But.of_r hgr9).ints HV6.out (fun hne b o e h => HO6.out hne b o _ _ (by rw [e]) (h ▸ HAV.out))) HO6.out)
        clear hown9 hgr9 hnew ho5 hk5 hn5
        go_wp2_with fail
        exact HF.out
      · have hmm := most_less HX.out HCY.out (by rw [HL2.out, HL4.out]; exact hle)
        rw [HL2.out] at hmm
        have HV6 := Lib.hid (show IntsAt W5 (.slice a2 L2.length c2) (nI (Apt.most F p u)) by rw [hmm]; exact HV25.out)
        have HO6 := Lib.hid (show nI (Apt.most F p u) ≠ [] → OffA Av (.slice a2 L2.length c2) by rw [hmm]; exact HO2.out)
        have t5 : ¬ (((L4.length + 1 : Nat) : Int)) ≥ (L2.length : Int) := by omega
        have t6 : decide (L2.length ≤ L4.length + 1) = false := decide_eq_false hle
        obtain ⟨m5, hm5⟩ : ∃ m, L4.length + 1 = m := ⟨_, rfl⟩
        rw [hm5] at t5 t6 hle ⊢
        clear hmm hm5
        go_wp2_with (at_mapUpdate; refine Classical.byContradiction (fun hcon => ?_))
        refine hcon ?_
        clear hcon
        obtain ⟨n5, D5, hn5, ho5, hk5⟩ := HI5.out.map
        have hnew : S4 (cd p u) = false := by rw [HSS4.out p u (by omega) hu]; exact HS.out
        refine wpList_mapUpdate_own _ rfl _ _ _ 95 rfl 98 29 lawA Tryz.underlying95 sliR bkm n5 D5 rfl ho5 (by have := cardN_le S4; unfold maxLen; omega) (askV (p : Int) (u : Int)) (.slice a2 L2.length c2) kl rfl rfl HKL.out (.held (.slice a2 L2.length c2)) [] (sliR_mk _ _ _) ?_
        intro W9 hown9 hgr9
        have HF := Lib.hid (HR.out W9 (.slice a2 L2.length c2) (addS S4 (cd p u)) (HI5.out.put HN.out HAV.out hn5 ho5.isMap hk5 hp70 hu HKL.out hnew HV6.out HO6.out hown9 hgr9) (HBU5.out.trans (But.of_r hgr9)) (fun q y hq hy => by
            have hne : cd q y ≠ cd p u := fun e => by have := (cd_inj hy hu e).1; omega
            unfold addS; rw [decide_eq_false hne, Bool.false_or]; exact HSS4.out q y (by omega) hy)
          ((But.of_r hgr9).ints HV6.out (fun hne b o e h => HO6.out hne b o _ _ (by rw [e]) (h ▸ HAV.out))) HO6.out)
        clear hown9 hgr9 hnew ho5 hk5 hn5
        go_wp2_with fail
        exact HF.out
def apE (f : List (List Int)) : List Int := ifOK (valF f) (nI (Apt.most (f.map mask) 0 0))
end Go.Proofs.YtmlbgfnddgbpbaaGreat

namespace Go.Proofs.YtmlbgfnddgbpbaaGreat
open Go.RowKit
open Mk Bm

theorem heaps4 (w : World) (A B C D : Obj) : let W := (((w.alloc A).alloc B).alloc C).alloc D
    W.heap[w.heap.size]? = some A ∧ W.heap[w.heap.size + 1]? = some B ∧ W.heap[w.heap.size + 1 + 1]? = some C ∧ W.heap[w.heap.size + 1 + 1 + 1]? = some D := by
  have up : ∀ {X : World} {k : Nat} {o p : Obj}, X.heap[k]? = some o → (X.alloc p).heap[k]? = some o := fun {X k o p} h => ((Grow.refl X).alloc p).blk h
  have hn : ∀ {X : World} {n : Nat} {o : Obj}, X.heap.size = n → (X.alloc o).heap[n]? = some o := fun {X n o} e => e ▸ heap_alloc_new X o
  refine ⟨up (up (up (hn rfl))), up (up (hn (by simp))), up (hn (by simp)), hn (by simp)⟩
set_option maxRecDepth 100000 in
set_option maxHeartbeats 16000000 in
theorem Apart_any (f : List (List Int)) (v : Value) (w : World) (hf : FamAt w v f) (R : Ending → World → Prop) (hR : ∀ w' v, Grow w w' → OwnI w.heap.size w' v (apE f) → R (.returned (.tuple #[v, .int .i64 (valF f)])) w') :
    Calls Tryz.prog 54 #[v] w R := by
  have HFM := Lib.hid hf
  unfold apE at hR
  have HR := Lib.hid hR
  obtain ⟨e, he⟩ : ∃ e, valF f = e := ⟨_, rfl⟩
  rw [he] at HR
  have HE := Lib.hid he
  have hmm := @run_makeMap Tryz.prog
  obtain ⟨a, c, rfl, h1, h2⟩ := hf.out
  clear hR hf
  by_cases h0 : e = 0
  · subst h0
    have HML := Lib.hid (masks_lt he)
    obtain ⟨hl70, hall⟩ := valF_ok.1 he
    have HALL := Lib.hid hall
    have HL70 := Lib.hid hl70
    clear he hall
    go_enter Tryz.func54, Tryz.ntmps54
    go_wp2_with fail
    refine bValidate_any f _ _ HFM.out _ ?_
    intro w1 hg1
    rw [HE.out]
    have HG1 := Lib.hid hg1
    clear hg1
    go_wp2_with fail
    refine all_any f _ _ (HFM.out.grow HG1.out) HALL.out hl70 _ ?_
    intro w3 v3 hg3 hv3
    have hv4 := hv3.slc encI_len
    rw [mskI_eq] at hv4
    have HV4 := Lib.hid hv4
    have HG3 := Lib.hid (HG1.out.trans hg3)
    obtain ⟨a3, c3, rfl, _⟩ := hv4
    clear hg3 hv3
    go_wp2_with fail
    have hN4 : (mostV w3.heap.size (w3.heap.size + 1 + 1) (w3.heap.size + 1 + 1 + 1)) = .func (.func 105) #[] #[.pointer (some ⟨w3.heap.size, 0, none⟩), .pointer (some ⟨w3.heap.size + 1 + 1, 0, none⟩), .pointer (some ⟨w3.heap.size + 1 + 1 + 1, 0, none⟩)] := rfl
    rw [← hN4]
    clear hN4
    have hsz : ((((w3.alloc (.cells #[.slice a3 (nI (List.map mask f)).length c3] 29)).alloc (.map #[] 0)).alloc (.cells #[.map (some (w3.heap.size + 1))] 95)).alloc (.cells #[mostV w3.heap.size (w3.heap.size + 1 + 1) (w3.heap.size + 1 + 1 + 1)] 96)).heap.size = w3.heap.size + 4 := by simp
    obtain ⟨k0, k1, k2, k3⟩ := heaps4 w3 (.cells #[.slice a3 (nI (List.map mask f)).length c3] 29) (.map #[] 0) (.cells #[.map (some (w3.heap.size + 1))] 95) (.cells #[mostV w3.heap.size (w3.heap.size + 1 + 1) (w3.heap.size + 1 + 1 + 1)] 96)
    have hgW : Grow w3 ((((w3.alloc (.cells #[.slice a3 (nI (List.map mask f)).length c3] 29)).alloc (.map #[] 0)).alloc (.cells #[.map (some (w3.heap.size + 1))] 95)).alloc (.cells #[mostV w3.heap.size (w3.heap.size + 1 + 1) (w3.heap.size + 1 + 1 + 1)] 96)) := ((((Grow.refl w3).alloc _).alloc _).alloc _).alloc _
    have hom : ((((w3.alloc (.cells #[.slice a3 (nI (List.map mask f)).length c3] 29)).alloc (.map #[] 0)).alloc (.cells #[.map (some (w3.heap.size + 1))] 95)).alloc (.cells #[mostV w3.heap.size (w3.heap.size + 1 + 1) (w3.heap.size + 1 + 1 + 1)] 96)).ownsMap Tryz.prog 98 sliR (w3.heap.size + 1) 0 (.map []) := by
      have h : ((w3.alloc (.cells #[.slice a3 (nI (List.map mask f)).length c3] 29)).alloc (.map #[] 0)).ownsMap Tryz.prog 98 sliR (w3.alloc (.cells #[.slice a3 (nI (List.map mask f)).length c3] 29)).heap.size 0 (.map []) := World.ownsMap_made _ _ _ _
      rw [World.size_alloc] at h
      exact h.kept (((Grow.refl _).alloc _).alloc _ |>.grownBy none) (by simp)
    generalize ((((w3.alloc (.cells #[.slice a3 (nI (List.map mask f)).length c3] 29)).alloc (.map #[] 0)).alloc (.cells #[.map (some (w3.heap.size + 1))] 95)).alloc (.cells #[mostV w3.heap.size (w3.heap.size + 1 + 1) (w3.heap.size + 1 + 1 + 1)] 96)) = W at k0 k1 k2 k3 hgW hom hsz ⊢
    obtain ⟨B, hB⟩ : ∃ B, w3.heap.size = B := ⟨_, rfl⟩
    have hfb : ∀ b o s, a3 = some ⟨b, o, s⟩ → b < B ∨ nI (f.map mask) = [] := fun b o s e => by
      obtain ⟨_, _, e1, _, _, q⟩ := HV4.out
      cases e1
      rcases q with ⟨h, _⟩ | ⟨b2, o2, h, hb, _⟩
      · exact .inr h
      · rw [h] at e; cases e; exact .inl (by omega)
    rw [hB] at k0 k1 k2 k3 hom hsz ⊢
    have hI : MI (f.map mask) (.slice a3 (nI (f.map mask)).length c3) B (B + 1 + 1) (B + 1 + 1 + 1) (B + 1) (fun b => b = B + 1) (fun _ => false) W := ⟨k0, k2, k3, HV4.out.grow hgW, 0, .map [], Nat.zero_le _, hom, KnownS.start _ _ _⟩
    have hN : MN (f.map mask) (.slice a3 (nI (f.map mask)).length c3) B (B + 1 + 1) (B + 1 + 1 + 1) (B + 1) := ⟨by omega, by omega, by omega, fun hne b o n c e => by
      cases e
      rcases hfb b o none rfl with h | h
      · omega
      · exact absurd h hne⟩
    have HGW := Lib.hid (HG3.out.trans hgW)
    have hBz := HG3.out.sz
    have hW0 : w.heap.size ≤ B := by omega
    have HK3 := Lib.hid k3
    clear k0 k1 k2 k3 hgW hom hfb hmm
    rw [zero_cast]
    refine most_any (f.map mask) HML.out (by rw [List.length_map]; exact HL70.out) _ _ _ _ _ hN (f.map mask).length 0 0 (by omega) (by omega) (fun b => b = B + 1) (fun _ => false) W rfl (fun b hb => by omega) hI _ ?_
    intro w5 v5 S5 hI5 hB5 _ hv5 _
    have hg5 := hB5.grow HGW.out (by omega) (by omega)
    have HG5 := Lib.hid hg5
    have hlen := most_len (F := f.map mask) (f.map mask).length 0 0 (by omega)
    rw [List.length_map] at hlen
    have hln : (nI (Apt.most (f.map mask) 0 0)).length < 10000000000 := by rw [nI_len]; omega
    have HLN := Lib.hid hln
    obtain ⟨a5, c5, hve, jk5⟩ := hv5
    subst hve
    have HV5 := Lib.hid (show IntsAt w5 (.slice a5 (nI (Apt.most (f.map mask) 0 0)).length c5) (nI (Apt.most (f.map mask) 0 0)) from ⟨a5, c5, rfl, jk5⟩)
    clear hI5 hB5 hg5 hln hlen jk5 hI hN
    go_wp2_with fail
    refine cloneI_any _ _ _ HV5.out HLN.out _ ?_
    intro w6 v6 hg6 hv6
    have HF := Lib.hid (HR.out w6 v6 (HG5.out.trans hg6) (by rw [ifOK_ok]; exact hv6.mono HG5.out.sz))
    clear hg6 hv6
    go_wp2_with fail
    exact HF.out
  · have t1 : (e != 0) = true := by simpa using h0
    have HF := Lib.hid (fun w' h => HR.out w' (.slice none 0 0) h (by rw [ifOK_err h0]; exact Own.nil _ _ _ _))
    clear h0 he
    go_enter Tryz.func54, Tryz.ntmps54
    go_wp2_with fail
    refine bValidate_any f _ _ HFM.out _ ?_
    intro w1 hg1
    rw [HE.out]
    have HF2 := Lib.hid (HF.out w1 hg1)
    clear hg1
    go_wp2_with fail
    exact HF2.out
end Go.Proofs.YtmlbgfnddgbpbaaGreat
