/-
The walks of the library's sort and Compact on a list of edits that rises, of ordered on it, and of mutants.
The walks of the library's IndexFunc and DeleteFunc on edits.
-/
import Derived.Test.YtfbfkkaepgcggaaGreatQ33
import Derived.Test.YtfbfkkaepgcggaaGreatQ25
import Derived.Test.YtfbfkkaepgcggaaGreatQ26
import Derived.Test.YtfbfkkaepgcggaaGreatQ43
import Derived.Test.YtfbfkkaepgcggaaGreatQ13
import Derived.Test.YtfbfkkaepgcggaaGreatQ32
import Derived.Test.YtfbfkkaepgcggaaGreatQ23
import Derived.Shelf.SlSortCmp.NoneTotal
import Derived.Test.YtfbfkkaepgcggaaGreatQ09
namespace Go.Proofs.YtfbfkkaepgcggaaGreat
open Go.RowKit

theorem cmpE_lays (blk off size : Nat) (w : World) : CmpLays Tryz.prog 69 #[] encE 5 cmpE blk off size w := by
  intro m os dk _ x y
  have := compareEdits_any x.at_ x.l.op x.l.d x.l.a x.l.b y.at_ y.l.op y.l.d y.l.a y.l.b (sortWorldK encE 5 w blk off m dk os) (fun e w' => e = .returned (.int .i64 (cmpE x y)) ∧ ∃ q os', w' = Go.Sort.grow ((sortWorldK encE 5 w blk off m dk os).drewN q) os') (fun w' h => ⟨rfl, h⟩)
  exact this
theorem swoE : Go.Sort.SWO (ltOf cmpE) where
  irrefl x := by show decide (cmpE x x < 0) = false; rw [cmpE_lt]; exact decide_eq_false (ltE_irrefl x)
  trans x y z h1 h2 := by
    have h1' : decide (cmpE x y < 0) = true := h1
    have h2' : decide (cmpE y z < 0) = true := h2
    show decide (cmpE x z < 0) = true
    rw [cmpE_lt] at *
    exact decide_eq_true (ltE_trans (of_decide_eq_true h1') (of_decide_eq_true h2'))
  ntrans x y z h1 h2 := by
    have h1' : decide (cmpE x y < 0) = false := h1
    have h2' : decide (cmpE y z < 0) = false := h2
    show decide (cmpE x z < 0) = false
    rw [cmpE_lt] at *
    have n1 := of_decide_eq_false h1'
    have n2 := of_decide_eq_false h2'
    refine decide_eq_false fun h => ?_
    rcases ltE_total x y with k | k | k
    · exact n1 k
    · subst k; exact n2 h
    · exact n2 (ltE_trans k h)
set_option maxHeartbeats 1000000 in
theorem sortEd_any (xs : List Ed) (hasc : xs.Pairwise ltE) (g cap B : Nat) (w : World) (hrow : RowE w g 0 xs) (hg : g < w.heap.size) (hB : B ≤ g) (hn : xs.length < 4611686018427387904) (R : Ending → World → Prop)
    (hR : ∀ w', Below B w w' → g < w'.heap.size → RowE w' g 0 xs → R (.returned (.tuple #[])) w') :
    Calls Tryz.prog 82 #[.slice (some ⟨g, 0, none⟩) xs.length cap, .func (.func 69) #[] #[]] w R := by
  have eg : ∀ args w, (callFunc 69 args).run Tryz.prog w = .ok (.enter 69 args) w := enters_of Tryz.func69 (by kernel_rfl) rfl
  have hcon := AnyQ.slices_SortFunc Tryz.sortEd 5 Tryz.isAgg46 Tryz.sizeOf46 encE encE_len (fun x v hv => encE_one x v hv) cmpE swoE 69 #[] g 0 cap xs.toArray w eg (cmpE_lays g 0 _ w) hrow.holds hg (by simpa using hn)
  change Calls Tryz.prog 82 _ _ _ at hcon
  rw [show xs.toArray.size = xs.length by simp] at hcon
  refine hcon.mono ?_
  rintro e w' ⟨rfl, d', n, os, ⟨hsz, _, hperm⟩, hs, rfl⟩
  have hsz' : d'.size = xs.length := by simpa using hsz
  have hall : d'.toList.Perm xs := by
    have h1 : (d'.extract 0 xs.length).toList = d'.toList := by rw [← hsz']; simp
    have h2 : ((xs.toArray).extract 0 xs.length).toList = xs := by simp
    rw [h1, h2] at hperm; exact hperm
  have hbel : Below B w (sortWorldK encE 5 w g 0 n d' os) := by
    unfold sortWorldK
    refine below_growS os (below_putRow id w n g 0 (Go.Sort.flatK encE 5 d') hB) ?_
    have := (below_putRow id w n g 0 (Go.Sort.flatK encE 5 d') hB).size
    have hz : w.heap.size ≤ (Go.Sort.putRowK encE 5 (Go.Sort.ahead w n) g 0 d').heap.size := by
      show w.heap.size ≤ (w.heap.modify g _).size; simp
    omega
  have hlt : g < (sortWorldK encE 5 w g 0 n d' os).heap.size := by
    have := size_sortWorldK_c encE 5 w g 0 n d' os; omega
  have hhold : RowE (sortWorldK encE 5 w g 0 n d' os) g 0 d'.toList := by
    refine RowE.of_holds ?_
    have := holdsK_sortWorldK_c encE 5 w g 0 xs.toArray d' n os hrow.holds hg (by simpa using hsz')
    simpa using this
  have hw : d'.toList.Pairwise fun x y => ¬ ltE y x := by
    rw [List.pairwise_iff_getElem]
    intro i j hi hj hij
    have hj' : j < d'.size := by simpa using hj
    have := hs i j (Nat.zero_le _) hij (by rw [← hsz']; exact hj')
    have h2 : decide (cmpE d'[j]! d'[i]! < 0) = false := this
    rw [cmpE_lt] at h2
    have h3 := of_decide_eq_false h2
    rw [getElem!_pos d' j hj', getElem!_pos d' i (by omega)] at h3
    simpa using h3
  rw [ascE_sorted hasc hall hw] at hhold
  exact hR _ hbel hlt hhold

/-- A list of edits in memory of its own, or none. -/
def OwnE (B : Nat) (w : World) (v : Value) (xs : List Ed) : Prop := (v = .slice none 0 0 ∧ xs = []) ∨ ∃ g cap, v = .slice (some ⟨g, 0, none⟩) xs.length cap ∧ B ≤ g ∧ g < w.heap.size ∧ xs.length ≤ cap ∧ cap ≤ 9223372036854775807 ∧ RowE w g 0 xs
theorem OwnE.of_own {B : Nat} {e : TypeId} {w : World} {v : Value} {xs : List Ed} (h : w.ownsRow B e 5 v xs.length (xs.flatMap encE)) : OwnE B w v xs := by
  have hs := slc_of_owns encE_len h
  rcases h.2 with ⟨hv, h0⟩ | ⟨g, cap, cur, rfl, hg, hh, _⟩
  · exact .inl ⟨hv, List.length_eq_zero_iff.1 h0⟩
  · obtain ⟨_, _, e1, c1, c2, _⟩ := hs
    cases e1
    exact .inr ⟨g, cap, rfl, hg, lt_of_block hh, c1, c2, RowE.of_own h⟩
theorem OwnE.edits {B : Nat} {w : World} {v : Value} {xs : List Ed} (h : OwnE B w v xs) : EditsAt w v xs := by
  rcases h with ⟨rfl, rfl⟩ | ⟨g, cap, rfl, _, hl, c1, c2, hr⟩
  · exact SlcAt.nil _ _ _
  · exact hr.slc hl c1 c2
theorem asc_ne {xs : List Ed} (h : xs.Pairwise ltE) {j k : Nat} {x y : Ed} (hj : k = j + 1) (hx : xs[j]? = some x) (hy : xs[k]? = some y) : ¬ y = x := by
  obtain ⟨h1, rfl⟩ := List.getElem?_eq_some_iff.1 hx
  obtain ⟨h2, rfl⟩ := List.getElem?_eq_some_iff.1 hy
  have := List.pairwise_iff_getElem.1 h j k h1 h2 (by omega)
  intro e
  rw [e] at this
  exact ltE_irrefl _ this
theorem RowE.at0 {w : World} {g : Nat} {xs : List Ed} (h : RowE w g 0 xs) {k : Nat} {t op d a b : Int} (hk : xs[k]? = some ⟨t, ⟨op, d, a, b⟩⟩) :
    w.cell? ⟨g, k * 5, none⟩ = some (.int .i64 t) ∧ w.cell? ⟨g, k * 5 + 1, none⟩ = some (.int .i64 op) ∧ w.cell? ⟨g, k * 5 + 2, none⟩ = some (.int .i64 d) ∧ w.cell? ⟨g, k * 5 + 3, none⟩ = some (.int .i64 a) ∧ w.cell? ⟨g, k * 5 + 4, none⟩ = some (.int .i64 b) := by
  have h0 := (h k _ hk 0 _ rfl).1
  have h1 := (h k _ hk 1 _ rfl).1
  have h2 := (h k _ hk 2 _ rfl).1
  have h3 := (h k _ hk 3 _ rfl).1
  have h4 := (h k _ hk 4 _ rfl).1
  simp only [Nat.zero_add, Nat.add_zero] at h0 h1 h2 h3 h4
  exact ⟨h0, h1, h2, h3, h4⟩

set_option maxRecDepth 100000 in
set_option maxHeartbeats 16000000 in
theorem compactEd_any (xs : List Ed) (hasc : xs.Pairwise ltE) (g n cap B : Nat) (w : World) (hn : xs.length = n) (hrow : RowE w g 0 xs) (hg : g < w.heap.size) (hcap : n ≤ cap) (hm : cap ≤ 9223372036854775807) (R : Ending → World → Prop)
    (hR : ∀ w', Below B w w' → g < w'.heap.size → RowE w' g 0 xs → R (.returned (.slice (some ⟨g, 0, none⟩) n cap)) w') :
    Calls Tryz.prog 83 #[.slice (some ⟨g, 0, none⟩) n cap] w R := by
  have HN := Lib.hid hn
  have HROW := Lib.hid hrow
  have HR := Lib.hid hR
  have HASC := Lib.hid hasc
  clear hrow hR hn hasc
  by_cases h2 : n < 2
  · have HF := Lib.hid (HR.out w (Below.refl _ _) hg HROW.out)
    go_enter Tryz.func83, Tryz.ntmps83
    go_wp2_with fail
    exact HF.out
  · have h2i : ¬ (n : Int) < 2 := by omega
    have hnm : n ≤ 9223372036854775807 := by omega
    go_enter Tryz.func83, Tryz.ntmps83
    go_wp2_with fail
    go_loopw [3] (fun i wr => ∃ k : Nat, 1 ≤ k ∧ k ≤ n ∧ i = .int .i64 k ∧ Grow w wr ∧ Below B w wr) (fun i _ => n - (intOf i).toNat)
    case atStart => exact ⟨1, Nat.le_refl _, by omega, rfl, Grow.refl _, Below.refl _ _⟩
    case round =>
      obtain ⟨k, hk1, hk, rfl, hgr, hb⟩ := hrel
      have HG := Lib.hid hgr
      have HB := Lib.hid hb
      have hgw : g < wr.heap.size := Nat.lt_of_lt_of_le hg hgr.sz
      clear hb hgr
      by_cases hlt : k < n
      · obtain ⟨j, hj⟩ : ∃ j, k = j + 1 := ⟨k - 1, by omega⟩
        have hjk : (k : Int) - 1 = (j : Int) := by omega
        have qw : IntKind.i64.wrap ((k : Int) - 1) = (j : Int) := by rw [hjk]; exact IntWalk.i64_in _ (by omega)
        have hjn : j < n := by omega
        have hjn2 : (j : Int) < (n : Int) := by omega
        have hkn2 : (k : Int) < (n : Int) := by omega
        have hj0 : (0 : Int) ≤ (j : Int) := by omega
        have hk0 : (0 : Int) ≤ (k : Int) := by omega
        obtain ⟨⟨t, op, d, a, b⟩, hy⟩ : ∃ y, xs[k]? = some y := ⟨_, List.getElem?_eq_getElem (by rw [HN.out]; exact hlt)⟩
        obtain ⟨⟨t', op', d', a', b'⟩, hx⟩ : ∃ x, xs[j]? = some x := ⟨_, List.getElem?_eq_getElem (by rw [HN.out]; exact hjn)⟩
        have HNE := Lib.hid (asc_ne HASC.out hj hx hy)
        have hrw := HROW.out.grow HG.out hg
        obtain ⟨c0, c1, c2, c3, c4⟩ := hrw.at0 hy
        obtain ⟨e0, e1, e2, e3, e4⟩ := hrw.at0 hx
        clear hj hx hy hrw
        by_cases gq0 : t = t'
        rotate_left
        · have tq1 : (t == t') = false := by simpa using gq0
          have tq2 : (t != t') = true := by simpa using gq0
          go_wp2_with (go_quiet (fail))
          go_roundw
          case rel => exact ⟨k + 1, by omega, by omega, by go_num, HG.out.drewN _, below_drewN HB.out _⟩
          case measure => simp [intOf]; omega
        subst gq0
        by_cases gq1 : op = op'
        rotate_left
        · have tq1 : (op == op') = false := by simpa using gq1
          have tq2 : (op != op') = true := by simpa using gq1
          go_wp2_with (go_quiet (fail))
          go_roundw
          case rel => exact ⟨k + 1, by omega, by omega, by go_num, HG.out.drewN _, below_drewN HB.out _⟩
          case measure => simp [intOf]; omega
        subst gq1
        by_cases gq2 : d = d'
        rotate_left
        · have tq1 : (d == d') = false := by simpa using gq2
          have tq2 : (d != d') = true := by simpa using gq2
          go_wp2_with (go_quiet (fail))
          go_roundw
          case rel => exact ⟨k + 1, by omega, by omega, by go_num, HG.out.drewN _, below_drewN HB.out _⟩
          case measure => simp [intOf]; omega
        subst gq2
        by_cases gq3 : a = a'
        rotate_left
        · have tq1 : (a == a') = false := by simpa using gq3
          have tq2 : (a != a') = true := by simpa using gq3
          go_wp2_with (go_quiet (fail))
          go_roundw
          case rel => exact ⟨k + 1, by omega, by omega, by go_num, HG.out.drewN _, below_drewN HB.out _⟩
          case measure => simp [intOf]; omega
        subst gq3
        by_cases gq4 : b = b'
        rotate_left
        · have tq1 : (b == b') = false := by simpa using gq4
          have tq2 : (b != b') = true := by simpa using gq4
          go_wp2_with (go_quiet (fail))
          go_roundw
          case rel => exact ⟨k + 1, by omega, by omega, by go_num, HG.out.drewN _, below_drewN HB.out _⟩
          case measure => simp [intOf]; omega
        subst gq4
        exact absurd rfl HNE.out
      · have hkn : k = n := by omega
        have HF := Lib.hid (HR.out wr HB.out hgw (HROW.out.grow HG.out hg))
        clear hkn
        go_wp2_with fail
        exact HF.out

set_option maxHeartbeats 4000000 in
theorem orderedE_any (xs : List Ed) (hasc : xs.Pairwise ltE) (B : Nat) (v : Value) (w : World) (ho : OwnE B w v xs) (hsm : xs.length < 4611686018427387904) (R : Ending → World → Prop)
    (hR : ∀ w', Below B w w' → OwnE B w' v xs → R (.returned v) w') :
    Calls Tryz.prog 68 #[v, .func (.func 69) #[] #[]] w R := by
  have HR := Lib.hid hR
  have HASC := Lib.hid hasc
  clear hR hasc
  rcases ho with ⟨rfl, rfl⟩ | ⟨g, cap, rfl, hB, hg, hcap, hm, hrow⟩
  · have HF := Lib.hid (HR.out w (Below.refl _ _) (.inl ⟨rfl, rfl⟩))
    have hsort : ∀ W, Calls Tryz.prog 82 #[.slice none 0 0, .func (.func 69) #[] #[]] W (fun e w' => e = .returned (.tuple #[]) ∧ w' = W) := fun W => AnyF.slices_SortFunc_none Tryz.sortEd none 0 _ W
    have HS := Lib.hid hsort
    clear hsort
    go_enter Tryz.func68, Tryz.ntmps68
    go_wp2_with fail
    refine (HS.out _).mono ?_
    rintro e w' ⟨rfl, rfl⟩
    go_wp2_with fail
    go_enter Tryz.func83, Tryz.ntmps83
    go_wp2_with fail
    exact HF.out
  · have HROW := Lib.hid hrow
    obtain ⟨n, hn⟩ : ∃ n, xs.length = n := ⟨_, rfl⟩
    have hsz := hn
    rw [hn] at hcap hsm ⊢
    have HN := Lib.hid hn
    clear hrow hn hsz
    go_enter Tryz.func68, Tryz.ntmps68
    go_wp2_with fail
    have hs := sortEd_any xs HASC.out g cap B w HROW.out hg hB (by rw [HN.out]; exact hsm)
    rw [HN.out] at hs
    refine hs _ ?_
    intro w1 hb1 hg1 hr1
    have HB1 := Lib.hid hb1
    have HR1 := Lib.hid hr1
    clear hb1 hr1 hs
    go_wp2_with fail
    refine compactEd_any xs HASC.out g n cap B _ HN.out HR1.out hg1 hcap hm _ ?_
    intro w2 hb2 hg2 hr2
    have hf := HR.out w2 (Below.trans HB1.out hb2) (.inr ⟨g, cap, rfl, hB, hg2, by rw [HN.out]; exact hcap, hm, hr2⟩)
    rw [HN.out] at hf
    have HF := Lib.hid hf
    clear hb2 hr2 hf
    go_wp2_with fail
    exact HF.out
end Go.Proofs.YtfbfkkaepgcggaaGreat

namespace Go.Proofs.YtfbfkkaepgcggaaGreat
open Go.RowKit

def storeE (w : World) (g i : Nat) (e : Ed) : World := ((((w.setCell ⟨g, i, none⟩ (.int .i64 e.at_)).setCell ⟨g, i + 1, none⟩ (.int .i64 e.l.op)).setCell ⟨g, i + 2, none⟩ (.int .i64 e.l.d)).setCell ⟨g, i + 3, none⟩ (.int .i64 e.l.a)).setCell ⟨g, i + 4, none⟩ (.int .i64 e.l.b)
theorem cell_storeE_same {w : World} {g p : Nat} (l : Ed) {i : Nat} {u : Value} (hu : (encE l)[i]? = some u) (h : ∀ c, c < 5 → (w.cell? ⟨g, p + c, none⟩).isSome = true) : (storeE w g p l).cell? ⟨g, p + i, none⟩ = some u := by
  have e : storeE w g p l = w.setCells g p (encE l) := rfl
  have hi : i < 5 := by have := (List.getElem?_eq_some_iff.1 hu).1; rw [encE_len] at this; exact this
  rw [e]
  have := World.cell?_setCells_in g (encE l) p w (fun j hj => h j (by simpa [encE_len] using hj)) i (by rw [encE_len]; exact hi)
  rw [this]
  rw [List.getElem?_eq_getElem (by rw [encE_len]; exact hi)] at hu
  exact hu
theorem cell_storeE_other {w : World} {g p q : Nat} (l : Ed) (h : q < p ∨ p + 5 ≤ q) : (storeE w g p l).cell? ⟨g, q, none⟩ = w.cell? ⟨g, q, none⟩ := by
  have e : storeE w g p l = w.setCells g p (encE l) := rfl
  rw [e]
  exact World.cell?_setCells_out g (encE l) p w ⟨g, q, none⟩ (fun _ _ => by rw [encE_len]; exact h)
theorem frozen_storeE {w : World} {g p : Nat} (l : Ed) (a : Addr) : (storeE w g p l).frozen? a = w.frozen? a := by
  have e : storeE w g p l = w.setCells g p (encE l) := rfl
  rw [e]; exact World.frozen?_setCells g (encE l) p w a
theorem RowE.set {w : World} {g o : Nat} {xs : List Ed} (h : RowE w g o xs) {k : Nat} (hk : k < xs.length) (l : Ed) : RowE (storeE w g (o + k * 5) l) g o (xs.set k l) := by
  intro j m hj i u hu
  rw [frozen_storeE]
  have hi : i < 5 := by have := (List.getElem?_eq_some_iff.1 hu).1; rw [encE_len] at this; exact this
  by_cases e : j = k
  · subst e
    rw [List.getElem?_set_self hk] at hj
    cases hj
    have h0 := h j xs[j] (List.getElem?_eq_getElem hk)
    refine ⟨cell_storeE_same l hu fun c hc => ?_, (h0 i _ (encE_get! _ i hi)).2⟩
    rw [(h0 c _ (encE_get! _ c hc)).1]; rfl
  · rw [List.getElem?_set_ne (fun e2 => e e2.symm)] at hj
    have h0 := h j m hj i u hu
    refine ⟨?_, h0.2⟩
    rw [cell_storeE_other l (by omega)]
    exact h0.1
theorem RowE.set0 {w : World} {g : Nat} {xs : List Ed} (h : RowE w g 0 xs) {k : Nat} (hk : k < xs.length) (l : Ed) : RowE (storeE w g (k * 5) l) g 0 (xs.set k l) := by
  have := h.set hk l
  rwa [Nat.zero_add] at this
theorem RowE.frz {w : World} {g : Nat} {xs : List Ed} (h : RowE w g 0 xs) {k : Nat} (hk : k < xs.length) : w.frozen? ⟨g, k * 5, none⟩ = false ∧ w.frozen? ⟨g, k * 5 + 1, none⟩ = false ∧ w.frozen? ⟨g, k * 5 + 2, none⟩ = false ∧ w.frozen? ⟨g, k * 5 + 3, none⟩ = false ∧ w.frozen? ⟨g, k * 5 + 4, none⟩ = false := by
  have hx : xs[k]? = some xs[k] := List.getElem?_eq_getElem hk
  have h0 := (h k _ hx 0 _ rfl).2
  have h1 := (h k _ hx 1 _ rfl).2
  have h2 := (h k _ hx 2 _ rfl).2
  have h3 := (h k _ hx 3 _ rfl).2
  have h4 := (h k _ hx 4 _ rfl).2
  simp only [Nat.zero_add, Nat.add_zero] at h0 h1 h2 h3 h4
  exact ⟨h0, h1, h2, h3, h4⟩
def zerosE (n : Nat) : List Value := (Builtin.zeroCells (Value.agg #[.int .i64 0, .int .i64 0, .int .i64 0, .int .i64 0, .int .i64 0]).cells n).toList
theorem RowE.cleared {w : World} {g : Nat} {ys : List Ed} (h : RowE w g 0 ys) (k n : Nat) : RowE (w.setCells g (k * 5) (zerosE n)) g 0 (ys.take k) := by
  intro j l hj i u hu
  have hi : i < 5 := by have := (List.getElem?_eq_some_iff.1 hu).1; rw [encE_len] at this; exact this
  rw [List.getElem?_take] at hj
  split at hj
  · next hjk =>
    obtain ⟨h1, h2⟩ := h j l hj i u hu
    rw [World.frozen?_setCells, World.cell?_setCells_out g (zerosE n) (k * 5) w ⟨g, 0 + j * 5 + i, none⟩ (fun _ _ => .inl (by dsimp only; omega))]
    exact ⟨h1, h2⟩
  · cases hj
theorem RowE.isSome {w : World} {g : Nat} {ys : List Ed} (h : RowE w g 0 ys) {t : Nat} (ht : t < ys.length * 5) : (w.cell? ⟨g, t, none⟩).isSome = true ∧ w.frozen? ⟨g, t, none⟩ = false := by
  have hq : t / 5 < ys.length := by omega
  obtain ⟨h1, h2⟩ := h (t / 5) _ (List.getElem?_eq_getElem hq) (t % 5) _ (encE_get! _ _ (Nat.mod_lt _ (by omega)))
  rw [show 0 + t / 5 * 5 + t % 5 = t by omega] at h1 h2
  exact ⟨by rw [h1]; rfl, h2⟩
end Go.Proofs.YtfbfkkaepgcggaaGreat
