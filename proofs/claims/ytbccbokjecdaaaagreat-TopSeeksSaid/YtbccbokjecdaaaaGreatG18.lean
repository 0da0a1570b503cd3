/-
The walks of the library's sort and Compact on a list of edits that rises, of ordered on it, and of mutants.
The walks of the library's IndexFunc and DeleteFunc on edits.
-/
import Derived.Test.YtbccbokjecdaaaaGreatG16
import Derived.Test.YtbccbokjecdaaaaGreatG05
import Derived.Test.YtbccbokjecdaaaaGreatG07
import Derived.Test.YtbccbokjecdaaaaGreatG14
import Derived.Shelf.SlSortCmp.NoneTotal
import Derived.Test.YtbccbokjecdaaaaGreatG11
namespace Go.Proofs.YtbccbokjecdaaaaGreat
open Go.RowKit

theorem cmpE_lays (blk off size : Nat) (w : World) : CmpLays Tryz.prog 99 #[] encE 5 cmpE blk off size w := by
  intro m os dk _ x y
  have := compareEdits_any x.at_ x.l.op x.l.d x.l.a x.l.b y.at_ y.l.op y.l.d y.l.a y.l.b (sortWorldK encE 5 w blk off m dk os) (fun e w' => e = .returned (.int .i64 (cmpE x y)) ∧ ∃ q os', w' = Go.Sort.grow ((sortWorldK encE 5 w blk off m dk os).drewN q) os') (fun w' h => ⟨rfl, h⟩)
  exact this
theorem swoE : Go.Sort.SWO (ltOf cmpE) where
  irrefl x := by show decide (cmpE x x < 0) = false; rw [cmpE_lt]; exact decide_eq_false (ltE_irrefl x)
  trans x y z h1 h2 := by
    have h1' : decide (cmpE x y < 0) = true := h1
    have h2' : decide (cmpE y z < 0) = true := h2
    show decide (cmpE x z < 0) = true
    rw [cmpE_lt] at *
    exact decide_eq_true (ltE_trans (of_decide_eq_true h1') (of_decide_eq_true h2'))
  ntrans x y z h1 h2 := by
    have h1' : decide (cmpE x y < 0) = false := h1
    have h2' : decide (cmpE y z < 0) = false := h2
    show decide (cmpE x z < 0) = false
    rw [cmpE_lt] at *
    have n1 := of_decide_eq_false h1'
    have n2 := of_decide_eq_false h2'
    refine decide_eq_false fun h => ?_
    rcases ltE_total x y with k | k | k
    · exact n1 k
    · subst k; exact n2 h
    · exact n2 (ltE_trans k h)
set_option maxHeartbeats 1000000 in
theorem sortEd_any (xs : List Ed) (hasc : xs.Pairwise ltE) (g cap B : Nat) (w : World) (hrow : RowE w g 0 xs) (hg : g < w.heap.size) (hB : B ≤ g) (hn : xs.length < 4611686018427387904) (R : Ending → World → Prop)
    (hR : ∀ w', Below B w w' → g < w'.heap.size → RowE w' g 0 xs → R (.returned (.tuple #[])) w') :
    Calls Tryz.prog 138 #[.slice (some ⟨g, 0, none⟩) xs.length cap, .func (.func 99) #[] #[]] w R := by
  have eg : ∀ args w, (callFunc 99 args).run Tryz.prog w = .ok (.enter 99 args) w := enters_of Tryz.func99 (by kernel_rfl) rfl
  have hcon := AnyQ.slices_SortFunc Tryz.sortEd 5 Tryz.isAgg27 Tryz.sizeOf27 encE encE_len (fun x v hv => encE_one x v hv) cmpE swoE 99 #[] g 0 cap xs.toArray w eg (cmpE_lays g 0 _ w) hrow.holds hg (by simpa using hn)
  change Calls Tryz.prog 138 _ _ _ at hcon
  rw [show xs.toArray.size = xs.length by simp] at hcon
  refine hcon.mono ?_
  rintro e w' ⟨rfl, d', n, os, ⟨hsz, _, hperm⟩, hs, rfl⟩
  have hsz' : d'.size = xs.length := by simpa using hsz
  have hall : d'.toList.Perm xs := by
    have h1 : (d'.extract 0 xs.length).toList = d'.toList := by rw [← hsz']; simp
    have h2 : ((xs.toArray).extract 0 xs.length).toList = xs := by simp
    rw [h1, h2] at hperm; exact hperm
  have hbel : Below B w (sortWorldK encE 5 w g 0 n d' os) := by
    unfold sortWorldK
    refine below_growS os (below_putRow id w n g 0 (Go.Sort.flatK encE 5 d') hB) ?_
    have := (below_putRow id w n g 0 (Go.Sort.flatK encE 5 d') hB).size
    have hz : w.heap.size ≤ (Go.Sort.putRowK encE 5 (Go.Sort.ahead w n) g 0 d').heap.size := by
      show w.heap.size ≤ (w.heap.modify g _).size; simp
    omega
  have hlt : g < (sortWorldK encE 5 w g 0 n d' os).heap.size := by
    have := size_sortWorldK_c encE 5 w g 0 n d' os; omega
  have hhold : RowE (sortWorldK encE 5 w g 0 n d' os) g 0 d'.toList := by
    refine RowE.of_holds ?_
    have := holdsK_sortWorldK_c encE 5 w g 0 xs.toArray d' n os hrow.holds hg (by simpa using hsz')
    simpa using this
  have hw : d'.toList.Pairwise fun x y => ¬ ltE y x := by
    rw [List.pairwise_iff_getElem]
    intro i j hi hj hij
    have hj' : j < d'.size := by simpa using hj
    have := hs i j (Nat.zero_le _) hij (by rw [← hsz']; exact hj')
    have h2 : decide (cmpE d'[j]! d'[i]! < 0) = false := this
    rw [cmpE_lt] at h2
    have h3 := of_decide_eq_false h2
    rw [getElem!_pos d' j hj', getElem!_pos d' i (by omega)] at h3
    simpa using h3
  rw [ascE_sorted hasc hall hw] at hhold
  exact hR _ hbel hlt hhold

/-- A list of edits in memory of its own, or none. -/
def OwnE (B : Nat) (w : World) (v : Value) (xs : List Ed) : Prop := (v = .slice none 0 0 ∧ xs = []) ∨ ∃ g cap, v = .slice (some ⟨g, 0, none⟩) xs.length cap ∧ B ≤ g ∧ g < w.heap.size ∧ xs.length ≤ cap ∧ cap ≤ 9223372036854775807 ∧ RowE w g 0 xs
theorem OwnE.of_own {B : Nat} {e : TypeId} {w : World} {v : Value} {xs : List Ed} (h : w.ownsRow B e 5 v xs.length (xs.flatMap encE)) : OwnE B w v xs := by
  have hs := slc_of_owns encE_len h
  rcases h.2 with ⟨hv, h0⟩ | ⟨g, cap, cur, rfl, hg, hh, _⟩
  · exact .inl ⟨hv, List.length_eq_zero_iff.1 h0⟩
  · obtain ⟨_, _, e1, c1, c2, _⟩ := hs
    cases e1
    exact .inr ⟨g, cap, rfl, hg, lt_of_block hh, c1, c2, RowE.of_own h⟩
theorem OwnE.edits {B : Nat} {w : World} {v : Value} {xs : List Ed} (h : OwnE B w v xs) : EditsAt w v xs := by
  rcases h with ⟨rfl, rfl⟩ | ⟨g, cap, rfl, _, hl, c1, c2, hr⟩
  · exact SlcAt.nil _ _ _
  · exact hr.slc hl c1 c2
theorem asc_ne {xs : List Ed} (h : xs.Pairwise ltE) {j k : Nat} {x y : Ed} (hj : k = j + 1) (hx : xs[j]? = some x) (hy : xs[k]? = some y) : ¬ y = x := by
  obtain ⟨h1, rfl⟩ := List.getElem?_eq_some_iff.1 hx
  obtain ⟨h2, rfl⟩ := List.getElem?_eq_some_iff.1 hy
  have := List.pairwise_iff_getElem.1 h j k h1 h2 (by omega)
  intro e
  rw [e] at this
  exact ltE_irrefl _ this
theorem RowE.at0 {w : World} {g : Nat} {xs : List Ed} (h : RowE w g 0 xs) {k : Nat} {t op d a b : Int} (hk : xs[k]? = some ⟨t, ⟨op, d, a, b⟩⟩) :
    w.cell? ⟨g, k * 5, none⟩ = some (.int .i64 t) ∧ w.cell? ⟨g, k * 5 + 1, none⟩ = some (.int .i64 op) ∧ w.cell? ⟨g, k * 5 + 2, none⟩ = some (.int .i64 d) ∧ w.cell? ⟨g, k * 5 + 3, none⟩ = some (.int .i64 a) ∧ w.cell? ⟨g, k * 5 + 4, none⟩ = some (.int .i64 b) := by
  have h0 := (h k _ hk 0 _ rfl).1
  have h1 := (h k _ hk 1 _ rfl).1
  have h2 := (h k _ hk 2 _ rfl).1
  have h3 := (h k _ hk 3 _ rfl).1
  have h4 := (h k _ hk 4 _ rfl).1
  simp only [Nat.zero_add, Nat.add_zero] at h0 h1 h2 h3 h4
  exact ⟨h0, h1, h2, h3, h4⟩

set_option maxRecDepth 100000 in
set_option maxHeartbeats 16000000 in
theorem compactEd_any (xs : List Ed) (hasc : xs.Pairwise ltE) (g n cap B : Nat) (w : World) (hn : xs.length = n) (hrow : RowE w g 0 xs) (hg : g < w.heap.size) (hcap : n ≤ cap) (hm : cap ≤ 9223372036854775807) (R : Ending → World → Prop)
    (hR : ∀ w', Below B w w' → g < w'.heap.size → RowE w' g 0 xs → R (.returned (.slice (some ⟨g, 0, none⟩) n cap)) w') :
    Calls Tryz.prog 139 #[.slice (some ⟨g, 0, none⟩) n cap] w R := by
  have HN := Lib.hid hn
  have HROW := Lib.hid hrow
  have HR := Lib.hid hR
  have HASC := Lib.hid hasc
  clear hrow hR hn hasc
  by_cases h2 : n < 2
  · have HF := Lib.hid (HR.out w (Below.refl _ _) hg HROW.out)
    go_enter Tryz.func139, Tryz.ntmps139
    go_wp2_with fail
    exact HF.out
  · have h2i : ¬ (n : Int) < 2 := by omega
    have hnm : n ≤ 9223372036854775807 := by omega
    go_enter Tryz.func139, Tryz.ntmps139
    go_wp2_with fail
    go_loopw [3] (fun i wr => ∃ k : Nat, 1 ≤ k ∧ k ≤ n ∧ i = .int .i64 k ∧ Grow w wr ∧ Below B w wr) (fun i _ => n - (intOf i).toNat)
    case atStart => exact ⟨1, Nat.le_refl _, by omega, rfl, Grow.refl _, Below.refl _ _⟩
    case round =>
      obtain ⟨k, hk1, hk, rfl, hgr, hb⟩ := hrel
      have HG := Lib.hid hgr
      have HB := Lib.hid hb
      have hgw : g < wr.heap.size := Nat.lt_of_lt_of_le hg hgr.sz
      clear hb hgr
      by_cases hlt : k < n
      · obtain ⟨j, hj⟩ : ∃ j, k = j + 1 := ⟨k - 1, by omega⟩
        have hjk : (k : Int) - 1 = (j : Int) := by omega
        have qw : IntKind.i64.wrap ((k : Int) - 1) = (j : Int) := by rw [hjk]; exact IntWalk.i64_in _ (by omega)
        have hjn : j < n := by omega
        have hjn2 : (j : Int) < (n : Int) := by omega
        have hkn2 : (k : Int) < (n : Int) := by omega
        have hj0 : (0 : Int) ≤ (j : Int) := by omega
        have hk0 : (0 : Int) ≤ (k : Int) := by omega
        obtain ⟨⟨t, op, d, a, b⟩, hy⟩ : ∃ y, xs[k]? = some y := ⟨_, List.getElem?_eq_getElem (by rw [HN.out]; exact hlt)⟩
        obtain ⟨⟨t', op', d', a', b'⟩, hx⟩ : ∃ x, xs[j]? = some x := ⟨_, List.getElem?_eq_getElem (by rw [HN.out]; exact hjn)⟩
        have HNE := Lib.hid (asc_ne HASC.out hj hx hy)
        have hrw := HROW.out.grow HG.out hg
        obtain ⟨c0, c1, c2, c3, c4⟩ := hrw.at0 hy
        obtain ⟨e0, e1, e2, e3, e4⟩ := hrw.at0 hx
        clear hj hx hy hrw
        by_cases gq0 : t = t'
        rotate_left
        · have tq1 : (t == t') = false := by simpa using gq0
          have tq2 : (t != t') = true := by simpa using gq0
          go_wp2_with (go_quiet (fail))
          go_roundw
          case rel => exact ⟨k + 1, by omega, by omega, by go_num, HG.out.drewN _, below_drewN HB.out _⟩
          case measure => simp [intOf]; omega
        subst gq0
        by_cases gq1 : op = op'
        rotate_left
        · have tq1 : (op == op') = false := by simpa using gq1
          have tq2 : (op != op') = true := by simpa using gq1
          go_wp2_with (go_quiet (fail))
          go_roundw
          case rel => exact ⟨k + 1, by omega, by omega, by go_num, HG.out.drewN _, below_drewN HB.out _⟩
          case measure => simp [intOf]; omega
        subst gq1
        by_cases gq2 : d = d'
        rotate_left
        · have tq1 : (d == d') = false := by simpa using gq2
          have tq2 : (d != d') = true := by simpa using gq2
          go_wp2_with (go_quiet (fail))
          go_roundw
          case rel => exact ⟨k + 1, by omega, by omega, by go_num, HG.out.drewN _, below_drewN HB.out _⟩
          case measure => simp [intOf]; omega
        subst gq2
        by_cases gq3 : a = a'
        rotate_left
        · have tq1 : (a == a') = false := by simpa using gq3
          have tq2 : (a != a') = true := by simpa using gq3
          go_wp2_with (go_quiet (fail))
          go_roundw
          case rel => exact ⟨k + 1, by omega, by omega, by go_num, HG.out.drewN _, below_drewN HB.out _⟩
          case measure => simp [intOf]; omega
        subst gq3
        by_cases gq4 : b = b'
        rotate_left
        · have tq1 : (b == b') = false := by simpa using gq4
          have tq2 : (b != b') = true := by simpa using gq4
          go_wp2_with (go_quiet (fail))
          go_roundw
          case rel => exact ⟨k + 1, by omega, by omega, by go_num, HG.out.drewN _, below_drewN HB.out _⟩
          case measure => simp [intOf]; omega
        subst gq4
        exact absurd rfl HNE.out
      · have hkn : k = n := by omega
        have HF := Lib.hid (HR.out wr HB.out hgw (HROW.out.grow HG.out hg))
        clear hkn
        go_wp2_with fail
        exact HF.out

set_option maxHeartbeats 4000000 in
theorem orderedE_any (xs : List Ed) (hasc : xs.Pairwise ltE) (B : Nat) (v : Value) (w : World) (ho : OwnE B w v xs) (hsm : xs.length < 4611686018427387904) (R : Ending → World → Prop)
    (hR : ∀ w', Below B w w' → OwnE B w' v xs → R (.returned v) w') :
    Calls Tryz.prog 98 #[v, .func (.func 99) #[] #[]] w R := by
  have HR := Lib.hid hR
  have HASC := Lib.hid hasc
  clear hR hasc
  rcases ho with ⟨rfl, rfl⟩ | ⟨g, cap, rfl, hB, hg, hcap, hm, hrow⟩
  · have HF := Lib.hid (HR.out w (Below.refl _ _) (.inl ⟨rfl, rfl⟩))
    have hsort : ∀ W, Calls Tryz.prog 138 #[.slice none 0 0, .func (.func 99) #[] #[]] W (fun e w' => e = .returned (.tuple #[]) ∧ w' = W) := fun W => AnyF.slices_SortFunc_none Tryz.sortEd none 0 _ W
    have HS := Lib.hid hsort
    clear hsort
    go_enter Tryz.func98, Tryz.ntmps98
    go_wp2_with fail
    refine (HS.out _).mono ?_
    rintro e w' ⟨rfl, rfl⟩
    go_wp2_with fail
    go_enter Tryz.func139, Tryz.ntmps139
    go_wp2_with fail
    exact HF.out
  · have HROW := Lib.hid hrow
    obtain ⟨n, hn⟩ : ∃ n, xs.length = n := ⟨_, rfl⟩
    have hsz := hn
    rw [hn] at hcap hsm ⊢
    have HN := Lib.hid hn
    clear hrow hn hsz
    go_enter Tryz.func98, Tryz.ntmps98
    go_wp2_with fail
    have hs := sortEd_any xs HASC.out g cap B w HROW.out hg hB (by rw [HN.out]; exact hsm)
    rw [HN.out] at hs
    refine hs _ ?_
    intro w1 hb1 hg1 hr1
    have HB1 := Lib.hid hb1
    have HR1 := Lib.hid hr1
    clear hb1 hr1 hs
    go_wp2_with fail
    refine compactEd_any xs HASC.out g n cap B _ HN.out HR1.out hg1 hcap hm _ ?_
    intro w2 hb2 hg2 hr2
    have hf := HR.out w2 (Below.trans HB1.out hb2) (.inr ⟨g, cap, rfl, hB, hg2, by rw [HN.out]; exact hcap, hm, hr2⟩)
    rw [HN.out] at hf
    have HF := Lib.hid hf
    clear hb2 hr2 hf
    go_wp2_with fail
    exact HF.out
end Go.Proofs.YtbccbokjecdaaaaGreat

namespace Go.Proofs.YtbccbokjecdaaaaGreat
open Go.RowKit

def storeE (w : World) (g i : Nat) (e : Ed) : World := ((((w.setCell ⟨g, i, none⟩ (.int .i64 e.at_)).setCell ⟨g, i + 1, none⟩ (.int .i64 e.l.op)).setCell ⟨g, i + 2, none⟩ (.int .i64 e.l.d)).setCell ⟨g, i + 3, none⟩ (.int .i64 e.l.a)).setCell ⟨g, i + 4, none⟩ (.int .i64 e.l.b)
theorem cell_storeE_same {w : World} {g p : Nat} (l : Ed) {i : Nat} {u : Value} (hu : (encE l)[i]? = some u) (h : ∀ c, c < 5 → (w.cell? ⟨g, p + c, none⟩).isSome = true) : (storeE w g p l).cell? ⟨g, p + i, none⟩ = some u := by
  have e : storeE w g p l = w.setCells g p (encE l) := rfl
  have hi : i < 5 := by have := (List.getElem?_eq_some_iff.1 hu).1; rw [encE_len] at this; exact this
  rw [e]
  have := World.cell?_setCells_in g (encE l) p w (fun j hj => h j (by simpa [encE_len] using hj)) i (by rw [encE_len]; exact hi)
  rw [this]
  rw [List.getElem?_eq_getElem (by rw [encE_len]; exact hi)] at hu
  exact hu
theorem cell_storeE_other {w : World} {g p q : Nat} (l : Ed) (h : q < p ∨ p + 5 ≤ q) : (storeE w g p l).cell? ⟨g, q, none⟩ = w.cell? ⟨g, q, none⟩ := by
  have e : storeE w g p l = w.setCells g p (encE l) := rfl
  rw [e]
  exact World.cell?_setCells_out g (encE l) p w ⟨g, q, none⟩ (fun _ _ => by rw [encE_len]; exact h)
theorem frozen_storeE {w : World} {g p : Nat} (l : Ed) (a : Addr) : (storeE w g p l).frozen? a = w.frozen? a := by
  have e : storeE w g p l = w.setCells g p (encE l) := rfl
  rw [e]; exact World.frozen?_setCells g (encE l) p w a
theorem RowE.set {w : World} {g o : Nat} {xs : List Ed} (h : RowE w g o xs) {k : Nat} (hk : k < xs.length) (l : Ed) : RowE (storeE w g (o + k * 5) l) g o (xs.set k l) := by
  intro j m hj i u hu
  rw [frozen_storeE]
  have hi : i < 5 := by have := (List.getElem?_eq_some_iff.1 hu).1; rw [encE_len] at this; exact this
  by_cases e : j = k
  · subst e
    rw [List.getElem?_set_self hk] at hj
    cases hj
    have h0 := h j xs[j] (List.getElem?_eq_getElem hk)
    refine ⟨cell_storeE_same l hu fun c hc => ?_, (h0 i _ (encE_get! _ i hi)).2⟩
    rw [(h0 c _ (encE_get! _ c hc)).1]; rfl
  · rw [List.getElem?_set_ne (fun e2 => e e2.symm)] at hj
    have h0 := h j m hj i u hu
    refine ⟨?_, h0.2⟩
    rw [cell_storeE_other l (by omega)]
    exact h0.1
theorem RowE.set0 {w : World} {g : Nat} {xs : List Ed} (h : RowE w g 0 xs) {k : Nat} (hk : k < xs.length) (l : Ed) : RowE (storeE w g (k * 5) l) g 0 (xs.set k l) := by
  have := h.set hk l
  rwa [Nat.zero_add] at this
theorem below_storeE {a w : World} {B g i : Nat} (l : Ed) (h : Below B a w) (hg : B ≤ g) : Below B a (storeE w g i l) :=
  Below.setCell (Below.setCell (Below.setCell (Below.setCell (Below.setCell h hg _) hg _) hg _) hg _) hg _
theorem RowE.frz {w : World} {g : Nat} {xs : List Ed} (h : RowE w g 0 xs) {k : Nat} (hk : k < xs.length) : w.frozen? ⟨g, k * 5, none⟩ = false ∧ w.frozen? ⟨g, k * 5 + 1, none⟩ = false ∧ w.frozen? ⟨g, k * 5 + 2, none⟩ = false ∧ w.frozen? ⟨g, k * 5 + 3, none⟩ = false ∧ w.frozen? ⟨g, k * 5 + 4, none⟩ = false := by
  have hx : xs[k]? = some xs[k] := List.getElem?_eq_getElem hk
  have h0 := (h k _ hx 0 _ rfl).2
  have h1 := (h k _ hx 1 _ rfl).2
  have h2 := (h k _ hx 2 _ rfl).2
  have h3 := (h k _ hx 3 _ rfl).2
  have h4 := (h k _ hx 4 _ rfl).2
  simp only [Nat.zero_add, Nat.add_zero] at h0 h1 h2 h3 h4
  exact ⟨h0, h1, h2, h3, h4⟩
def zerosE (n : Nat) : List Value := (Builtin.zeroCells (Value.agg #[.int .i64 0, .int .i64 0, .int .i64 0, .int .i64 0, .int .i64 0]).cells n).toList
theorem zerosE_length (n : Nat) : (zerosE n).length = n * 5 := by
  unfold zerosE; rw [Array.length_toList, size_zeroCells]; rfl
theorem zerosE_one (n : Nat) : ∀ v ∈ zerosE n, v.oneCell' = true := by
  intro v hv
  unfold zerosE Builtin.zeroCells at hv
  rw [Array.toList_map, List.mem_map] at hv
  obtain ⟨i, _, rfl⟩ := hv
  have h4 : (Value.agg #[.int .i64 0, .int .i64 0, .int .i64 0, .int .i64 0, .int .i64 0]).cells.size = 5 := rfl
  rw [h4]
  have : i % 5 = 0 ∨ i % 5 = 1 ∨ i % 5 = 2 ∨ i % 5 = 3 ∨ i % 5 = 4 := by omega
  rcases this with h | h | h | h | h <;> rw [h] <;> rfl
theorem run_clear_eds (w : World) (ty g o n c : Nat) (hn : 0 < n) (hc : ∀ j, j < n * 5 → (w.cell? ⟨g, o + j, none⟩).isSome = true) (hf : ∀ j, j < n * 5 → w.frozen? ⟨g, o + j, none⟩ = false) :
    (Builtin.clear_ #[31] ty #[.slice (some ⟨g, o, none⟩) n c]).run Tryz.prog w = .ok (.tuple #[]) (w.setCells g o (zerosE n)) := by
  have hst := run_storeCells_cells (P := Tryz.prog) g o (zerosE n) 0 w (by rw [zerosE_length]; simpa using hc) (by rw [zerosE_length]; simpa using hf) (zerosE_one n)
  simp only [Nat.add_zero] at hst
  obtain ⟨m, rfl⟩ : ∃ m, n = m + 1 := ⟨n - 1, by omega⟩
  unfold zerosE at hst ⊢
  simp [Builtin.clear_, run_underlying Tryz.underlying31, hst]
theorem RowE.cleared {w : World} {g : Nat} {ys : List Ed} (h : RowE w g 0 ys) (k n : Nat) : RowE (w.setCells g (k * 5) (zerosE n)) g 0 (ys.take k) := by
  intro j l hj i u hu
  have hi : i < 5 := by have := (List.getElem?_eq_some_iff.1 hu).1; rw [encE_len] at this; exact this
  rw [List.getElem?_take] at hj
  split at hj
  · next hjk =>
    obtain ⟨h1, h2⟩ := h j l hj i u hu
    rw [World.frozen?_setCells, World.cell?_setCells_out g (zerosE n) (k * 5) w ⟨g, 0 + j * 5 + i, none⟩ (fun _ _ => .inl (by dsimp only; omega))]
    exact ⟨h1, h2⟩
  · cases hj
theorem RowE.isSome {w : World} {g : Nat} {ys : List Ed} (h : RowE w g 0 ys) {t : Nat} (ht : t < ys.length * 5) : (w.cell? ⟨g, t, none⟩).isSome = true ∧ w.frozen? ⟨g, t, none⟩ = false := by
  have hq : t / 5 < ys.length := by omega
  obtain ⟨h1, h2⟩ := h (t / 5) _ (List.getElem?_eq_getElem hq) (t % 5) _ (encE_get! _ _ (Nat.mod_lt _ (by omega)))
  rw [show 0 + t / 5 * 5 + t % 5 = t by omega] at h1 h2
  exact ⟨by rw [h1]; rfl, h2⟩
def keepE (pr : Ed → Bool) (xs : List Ed) : List Ed := xs.filter fun x => !pr x
theorem keepE_snoc {pr : Ed → Bool} {xs : List Ed} {k : Nat} {x : Ed} (hx : xs[k]? = some x) : keepE pr (xs.take (k + 1)) = keepE pr (xs.take k) ++ (if pr x then [] else [x]) := by
  rw [List.take_add_one, hx]
  unfold keepE
  rw [List.filter_append]
  cases h : pr x <;> simp [h]
theorem keepE_all {pr : Ed → Bool} {xs : List Ed} (h : ∀ y ∈ xs, pr y = false) : keepE pr xs = xs := by
  unfold keepE
  rw [List.filter_eq_self]
  intro y hy
  rw [h y hy]; rfl
/-- A function value that answers pr on edits, as long as Inv holds. -/
def PredV (g : Nat) (cb : Array Value) (pr : Ed → Bool) (Inv : World → Prop) : Prop :=
  ∀ (t op d a b : Int) (W : World), Inv W → ∀ R : Ending → World → Prop, (∀ W', Grow W W' → R (.returned (.bool (pr ⟨t, ⟨op, d, a, b⟩⟩))) W') → Calls Tryz.prog g (#[.agg #[.int .i64 t, .int .i64 op, .int .i64 d, .int .i64 a, .int .i64 b]] ++ cb) W R

set_option maxHeartbeats 4000000 in
theorem indexFV_any (f : Nat) (cb : Array Value) (eg : Enters Tryz.prog f) (pr : Ed → Bool) (Inv : World → Prop) (hI : ∀ W W', Inv W → Grow W W' → Inv W') (hp : PredV f cb pr Inv) (xs : List Ed) (v : Value) (w : World) (hv : EditsAt w v xs) (hi : Inv w) (R : Ending → World → Prop)
    (hR1 : ∀ w' (k : Nat) x, Grow w w' → xs[k]? = some x → pr x = true → (∀ y ∈ xs.take k, pr y = false) → R (.returned (.int .i64 (k : Int))) w')
    (hR2 : ∀ w', Grow w w' → (∀ y ∈ xs, pr y = false) → R (.returned (.int .i64 (-1))) w') :
    Calls Tryz.prog 117 #[v, .func (.func f) #[] cb] w R := by
  have HV := Lib.hid hv
  have HI := Lib.hid hI
  have HP := Lib.hid hp
  have HI0 := Lib.hid hi
  have HR1 := Lib.hid hR1
  have HR2 := Lib.hid hR2
  obtain ⟨va, vc, rfl, v1, v2, _⟩ := hv
  have hm : xs.length ≤ 9223372036854775807 := by omega
  unfold Enters at eg
  clear hR1 hR2 hI hp hi
  go_enter Tryz.func117, Tryz.ntmps117
  go_wp2_with fail
  go_loopw [4, 5, 8] (fun _ _ i wr => ∃ k : Nat, k ≤ xs.length ∧ i = .int .i64 k ∧ Grow w wr ∧ ∀ y ∈ xs.take k, pr y = false) (fun _ _ i _ => xs.length - (intOf i).toNat)
  case atStart => exact ⟨0, Nat.zero_le _, rfl, Grow.refl _, by simp⟩
  case round =>
    obtain ⟨k, hk, rfl, hg, hno⟩ := hrel
    have HG := Lib.hid hg
    have HNO := Lib.hid hno
    clear hg hno
    by_cases hlt : k < xs.length
    · obtain ⟨⟨t, op, d, a, b⟩, hy⟩ : ∃ y, xs[k]? = some y := ⟨_, List.getElem?_eq_getElem hlt⟩
      obtain ⟨gb, o, rfl, hb, e0, e1, e2, e3, e4⟩ := edits_at (HV.out.grow HG.out) hy
      have hk2 : (k : Int) < (xs.length : Int) := by omega
      have HY := Lib.hid hy
      clear hy
      cases hpy : pr ⟨t, ⟨op, d, a, b⟩⟩ with
      | true =>
        have HPY := Lib.hid hpy
        clear hpy
        go_wp2_with fail
        refine HP.out t op d a b _ (HI.out _ _ HI0.out HG.out) _ ?_
        intro w1 hg1
        rw [HPY.out]
        have HF := Lib.hid (HR1.out w1 k _ (HG.out.trans hg1) HY.out HPY.out HNO.out)
        clear hg1
        go_wp2_with fail
        exact HF.out
      | false =>
        have HPY := Lib.hid hpy
        clear hpy
        go_wp2_with fail
        refine HP.out t op d a b _ (HI.out _ _ HI0.out HG.out) _ ?_
        intro w1 hg1
        rw [HPY.out]
        have HG1 := Lib.hid (HG.out.trans hg1)
        clear hg1
        go_wp2_with fail
        go_roundw
        case rel =>
          refine ⟨k + 1, by omega, by go_num, HG1.out, fun z hz => ?_⟩
          rw [List.take_add_one, HY.out] at hz
          rcases List.mem_append.1 hz with hz | hz
          · exact HNO.out z hz
          · simp at hz; subst hz; exact HPY.out
        case measure => simp [intOf]; omega
    · have HF := Lib.hid (HR2.out wr HG.out (fun y hy => HNO.out y (by rw [List.take_of_length_le (by omega)]; exact hy)))
      go_wp2_with fail
      exact HF.out

set_option maxRecDepth 100000 in
set_option maxHeartbeats 8000000 in
theorem deleteFV_any (f : Nat) (cb : Array Value) (eg : Enters Tryz.prog f) (pr : Ed → Bool) (Inv : World → Prop) (hI : ∀ W W', Inv W → Grow W W' → Inv W') (hp : PredV f cb pr Inv) (xs : List Ed) (g n cap B : Nat) (hS : ∀ W k e, Inv W → Inv (storeE W g k e)) (w : World) (hn : xs.length = n) (hcap : n ≤ cap) (hm : cap ≤ 9223372036854775807) (hrow : RowE w g 0 xs) (hg : g < w.heap.size) (hB : B ≤ g) (hi : Inv w) (R : Ending → World → Prop)
    (hR : ∀ w', Below B w w' → g < w'.heap.size → RowE w' g 0 (keepE pr xs) → R (.returned (.slice (some ⟨g, 0, none⟩) (keepE pr xs).length cap)) w') :
    Calls Tryz.prog 69 #[.slice (some ⟨g, 0, none⟩) n cap, .func (.func f) #[] cb] w R := by
  have HN := Lib.hid hn
  have HROW := Lib.hid hrow
  have HR := Lib.hid hR
  have HI := Lib.hid hI
  have HS := Lib.hid hS
  have HP := Lib.hid hp
  have HI0 := Lib.hid hi
  have hv := hrow.slc hg (by rw [hn]; exact hcap) hm
  rw [hn] at hv
  have HV := Lib.hid hv
  have EG := Lib.hid eg
  unfold Enters at eg
  clear hn hrow hR hI hS hp hi hv
  go_enter Tryz.func69, Tryz.ntmps69
  go_wp2_with fail
  refine indexFV_any f cb EG.out pr Inv HI.out HP.out xs _ _ HV.out HI0.out _ ?_ ?_
  · intro w1 k x hg1 hx hpx hno
    have hkn : k < n := by rw [← HN.out]; exact (List.getElem?_eq_some_iff.1 hx).1
    have hst : keepE pr (xs.take (k + 1)) = xs.take k := by
      rw [keepE_snoc hx, hpx, if_pos rfl, List.append_nil]; exact keepE_all hno
    have HST := Lib.hid hst
    have HG1 := Lib.hid hg1
    have hgw1 : g < w1.heap.size := by have := hg1.sz; omega
    have t1 : ((k : Int) == -1) = false := by simp
    have t2 : ((k : Int) != -1) = true := by simp
    clear hx hpx hno hst hg1
    go_wp2_with fail
    go_loopw [5, 6] (fun iv jv wr => ∃ (m q : Nat) (ys : List Ed), iv = .int .i64 m ∧ jv = .int .i64 q ∧ q ≤ n ∧ m < q ∧ Below B w wr ∧ g < wr.heap.size ∧ Inv wr ∧ RowE wr g 0 ys ∧ ys.length = n ∧ ys.take m = keepE pr (xs.take q) ∧ (keepE pr (xs.take q)).length = m ∧ ys.drop q = xs.drop q) (fun _ jv _ => n - (intOf jv).toNat)
    case atStart =>
      refine ⟨k, k + 1, xs, rfl, by go_num, by omega, by omega, HG1.out.below (by omega), hgw1, HI.out _ _ HI0.out HG1.out, HROW.out.grow HG1.out hg, HN.out, HST.out.symm, ?_, rfl⟩
      rw [HST.out, List.length_take, HN.out]; omega
    case round =>
      obtain ⟨m, q, ys, rfl, rfl, hq, hmq, hb2, hgw2, hin, hrw2, hyl, htk, hml, hdr⟩ := hrel
      have HB2 := Lib.hid hb2
      have HIN := Lib.hid hin
      have HRW2 := Lib.hid hrw2
      have HYL := Lib.hid hyl
      have HTK := Lib.hid htk
      have HML := Lib.hid hml
      have HDR := Lib.hid hdr
      clear hb2 hin hrw2 hyl htk hml hdr t1 t2
      by_cases hql : q < n
      · have hqn : (q : Int) < (n : Int) := by omega
        have hmn : m < n := by omega
        have hmn2 : (m : Int) < (n : Int) := by omega
        obtain ⟨⟨t, op, d, a, b⟩, hx⟩ : ∃ x, xs[q]? = some x := ⟨_, List.getElem?_eq_getElem (by rw [HN.out]; exact hql)⟩
        have hy2 : ys[q]? = some (⟨t, ⟨op, d, a, b⟩⟩ : Ed) := by
          have h := congrArg (fun l => l[0]?) HDR.out
          simp only [List.getElem?_drop, Nat.add_zero] at h
          rw [h]; exact hx
        obtain ⟨c0, c1, c2, c3, c4⟩ := HRW2.out.at0 hy2
        have hsn := keepE_snoc (pr := pr) hx
        have HSN := Lib.hid hsn
        have hdr1 : ys.drop (q + 1) = xs.drop (q + 1) := by
          have h := congrArg (fun l => l.drop 1) HDR.out
          simp only [List.drop_drop] at h
          exact h
        have HDR1 := Lib.hid hdr1
        clear hx hy2 hsn hdr1
        cases hpx : pr ⟨t, ⟨op, d, a, b⟩⟩ with
        | true =>
          have HPX := Lib.hid hpx
          clear hpx
          go_wp2_with fail
          refine HP.out t op d a b _ (HI.out _ _ HIN.out ((Grow.refl _).alloc _)) _ ?_
          intro w2 hg2
          rw [HPX.out]
          have HG2 := Lib.hid (((Grow.refl wr).alloc _).trans hg2)
          clear hg2
          go_wp2_with fail
          go_roundw
          case rel =>
            refine ⟨m, q + 1, ys, rfl, by go_num, by omega, by omega, Below.of_grow HB2.out HG2.out (by omega), by have := HG2.out.sz; omega, HI.out _ _ HIN.out HG2.out, HRW2.out.grow HG2.out hgw2, HYL.out, ?_, ?_, HDR1.out⟩
            · rw [HSN.out, HPX.out, if_pos rfl, List.append_nil]; exact HTK.out
            · rw [HSN.out, HPX.out, if_pos rfl, List.append_nil]; exact HML.out
          case measure => simp [intOf]; omega
        | false =>
          have HPX := Lib.hid hpx
          clear hpx
          go_wp2_with fail
          refine HP.out t op d a b _ (HI.out _ _ HIN.out ((Grow.refl _).alloc _)) _ ?_
          intro w2 hg2
          rw [HPX.out]
          have hbx := hg2.blk (heap_alloc_new wr (.cells #[.int .i64 t, .int .i64 op, .int .i64 d, .int .i64 a, .int .i64 b] 27))
          obtain ⟨b0, b1, b2, b3, b4⟩ := box5 hbx
          have hzb := lt_of_block hbx
          have hne2 : wr.heap.size ≠ g := by omega
          have hne3 : g ≠ wr.heap.size := by omega
          have HG2 := Lib.hid (((Grow.refl wr).alloc _).trans hg2)
          have hrw3 := HRW2.out.grow HG2.out hgw2
          have hgw3 : g < w2.heap.size := by have := HG2.out.sz; omega
          obtain ⟨⟨mt, mop, md, ma, mb⟩, hmy⟩ : ∃ y, ys[m]? = some y := ⟨_, List.getElem?_eq_getElem (by rw [HYL.out]; exact hmn)⟩
          obtain ⟨m0, m1, m2, m3, m4⟩ := hrw3.at0 hmy
          obtain ⟨z0, z1, z2, z3, z4⟩ := hrw3.frz (k := m) (by rw [HYL.out]; exact hmn)
          have HRW3 := Lib.hid hrw3
          clear hg2 hrw3 hmy hbx
          go_wp2_with fail
          go_roundw
          case rel =>
            have hrs := HRW3.out.set0 (k := m) (by rw [HYL.out]; exact hmn) ⟨t, ⟨op, d, a, b⟩⟩
            refine ⟨m + 1, q + 1, ys.set m ⟨t, ⟨op, d, a, b⟩⟩, by go_num, by go_num, by omega, by omega, below_storeE (i := m * 5) ⟨t, ⟨op, d, a, b⟩⟩ (Below.of_grow HB2.out HG2.out (by omega)) hB, ?_, HS.out w2 (m * 5) ⟨t, ⟨op, d, a, b⟩⟩ (HI.out _ _ HIN.out HG2.out), hrs, by rw [List.length_set]; exact HYL.out, ?_, ?_, ?_⟩
            · simp only [World.size_setCell]; exact hgw3
            · rw [HSN.out, HPX.out, if_neg (by simp), ← HTK.out, List.take_add_one, List.take_set, List.getElem?_set_self (by rw [HYL.out]; exact hmn), List.set_eq_of_length_le (by simp; omega)]; rfl
            · rw [HSN.out, HPX.out, if_neg (by simp), List.length_append]; have := HML.out; simp; omega
            · rw [List.drop_set_of_lt (by omega)]; exact HDR1.out
          case measure => simp [intOf]; omega
      · have hqe : q = n := by omega
        subst hqe
        have hcl : ∀ ty, (Builtin.clear_ #[31] ty #[.slice (some ⟨g, m * 5, none⟩) (q - m) (cap - m)]).run Tryz.prog wr = .ok (.tuple #[]) (wr.setCells g (m * 5) (zerosE (q - m))) := fun ty =>
          run_clear_eds wr ty g (m * 5) (q - m) (cap - m) (by omega) (fun t ht => (HRW2.out.isSome (by rw [HYL.out]; omega)).1) (fun t ht => (HRW2.out.isSome (by rw [HYL.out]; omega)).2)
        have hfin := HRW2.out.cleared m (q - m)
        rw [HTK.out] at hfin
        have hlen : m = (keepE pr (xs.take q)).length := by
          rw [← HTK.out, List.length_take, HYL.out]; omega
        have hall : keepE pr (xs.take q) = keepE pr xs := by rw [List.take_of_length_le (by rw [HN.out]; exact Nat.le_refl _)]
        rw [hall] at hfin hlen
        have hf := HR.out _ (below_setCells g hB _ _ _ HB2.out) (by rw [size_setCells']; exact hgw2) hfin
        rw [← hlen] at hf
        have HF := Lib.hid hf
        have hm2 : (m : Int) ≤ (q : Int) := by omega
        have hm4 : m ≤ q := by omega
        have hm5 : m ≤ cap := by omega
        clear hf hfin hlen hall
        go_wp2_with fail
        exact HF.out
  · intro w1 hg1 hno
    have hall := keepE_all hno
    have hf := HR.out w1 (hg1.below (by omega)) (by have := hg1.sz; omega) (by rw [hall]; exact HROW.out.grow hg1 hg)
    rw [hall, HN.out] at hf
    have HF := Lib.hid hf
    clear hf hall hno hg1
    go_wp2_with fail
    exact HF.out
end Go.Proofs.YtbccbokjecdaaaaGreat
