/-
The table of the document's count of sets apart: plain laws.
The walk of the document's count of sets apart.
What the document's search for sets apart computes: plain laws.
-/
import Derived.Test.YtmlbgfnddgbpbaaGreatD05
import Derived.Test.YtmlbgfnddgbpbaaGreatD25
import Derived.Test.YtmlbgfnddgbpbaaGreatD14
import Derived.RegionTactic
import Derived.BigRegion
namespace Go.Proofs.YtmlbgfnddgbpbaaGreat
open Go.RowKit
open Mk

def lowb (a : Nat) : Nat := ((List.range 8).find? (a.testBit ·)).getD 0
theorem low_is : ∀ a : Nat, a < 256 → 0 < a → a.testBit (lowb a) = true ∧ lowb a < 8 ∧ bits .and .i64 (a : Int) (-(a : Int)) = ((2 ^ lowb a : Nat) : Int) ∧ a &&& (255 ^^^ 2 ^ lowb a) = a - 2 ^ lowb a ∧ a - 2 ^ lowb a < a := by decide +kernel
theorem andnot_is {a b : Nat} (ha : a < 256) (hb : b < 256) : bits .andNot .i64 (a : Int) (b : Int) = ((a &&& (255 ^^^ b) : Nat) : Int) := by
  unfold bits
  rw [ofInt_nat, ofInt_nat]
  show IntKind.i64.wrap (((BitVec.ofNat 64 a &&& ~~~ BitVec.ofNat 64 b).toNat : Nat) : Int) = _
  have h : (BitVec.ofNat 64 a &&& ~~~ BitVec.ofNat 64 b).toNat = a &&& (255 ^^^ b) := by
    rw [BitVec.toNat_and, BitVec.toNat_not, BitVec.toNat_ofNat, BitVec.toNat_ofNat, Nat.mod_eq_of_lt (by omega), Nat.mod_eq_of_lt (by omega)]
    refine Nat.eq_of_testBit_eq fun j => ?_
    rw [Nat.testBit_and, Nat.testBit_and, Nat.testBit_xor, show 2 ^ 64 - 1 - b = 2 ^ 64 - (b + 1) by omega, Nat.testBit_two_pow_sub_succ (by omega)]
    by_cases hj : j < 8
    · have h255 : (255 : Nat).testBit j = true := by
        have key : ∀ j, j < 8 → (255 : Nat).testBit j = true := by decide
        exact key j hj
      rw [h255, decide_eq_true (show j < 64 by omega)]
      cases a.testBit j <;> cases b.testBit j <;> rfl
    · have : a.testBit j = false := Nat.testBit_lt_two_pow (Nat.lt_of_lt_of_le ha (by have := Nat.pow_le_pow_right (show 0 < 2 by decide) (show 8 ≤ j by omega); omega))
      rw [this]; simp
  rw [h]
  have : a &&& (255 ^^^ b) ≤ a := Nat.and_le_left
  exact IntWalk.i64_in _ (by omega)
theorem andnot_prt {a x : Nat} (ha : a < 256) (h : prt x a) : a &&& (255 ^^^ x) = a ^^^ x := by
  refine Nat.eq_of_testBit_eq fun j => ?_
  rw [Nat.testBit_and, Nat.testBit_xor, Nat.testBit_xor]
  by_cases hj : j < 8
  · have h255 : (255 : Nat).testBit j = true := by
      have key : ∀ j, j < 8 → (255 : Nat).testBit j = true := by decide
      exact key j hj
    have hp := part_iff.1 h j
    rw [h255]
    revert hp
    cases a.testBit j <;> cases x.testBit j <;> simp
  · have h1 : a.testBit j = false := Nat.testBit_lt_two_pow (Nat.lt_of_lt_of_le ha (by have := Nat.pow_le_pow_right (show 0 < 2 by decide) (show 8 ≤ j by omega); omega))
    have hp := part_iff.1 h j
    rw [h1] at hp ⊢
    cases hx : x.testBit j
    · rfl
    · have := hp hx; cases this
theorem pow_meets {x i : Nat} : x &&& 2 ^ i ≠ 0 ↔ x.testBit i = true := by
  rw [Ne, and_zero]
  constructor
  · intro h
    refine Classical.byContradiction fun hc => h fun j hj => ?_
    rw [Nat.testBit_two_pow] at hj
    have := of_decide_eq_true hj.2
    subst this
    exact hc hj.1
  · intro h hc
    exact hc i ⟨h, by rw [Nat.testBit_two_pow]; simp⟩
/-- The table is right for all below n. -/
def TabN (G : List Nat) (t : Nat → Nat) (n : Nat) : Prop := t 0 = 0 ∧ ∀ free, 0 < free → free < n →
  t (free - 2 ^ lowb free) ≤ t free ∧ (∀ x ∈ G, x.testBit (lowb free) = true → prt x free → 1 + t (free ^^^ x) ≤ t free) ∧
  (t free = t (free - 2 ^ lowb free) ∨ ∃ x ∈ G, x.testBit (lowb free) = true ∧ prt x free ∧ t free = 1 + t (free ^^^ x))
theorem TabN.tab {G : List Nat} {t : Nat → Nat} (h : TabN G t 256) : Apt.Tab G t := ⟨h.1, fun free h0 h1 => ⟨lowb free, (low_is free h1 h0).1, h.2 free h0 h1⟩⟩
/-- What is known of the place that is under way. -/
def TabX (G : List Nat) (t : Nat → Nat) (free k : Nat) : Prop := t (free - 2 ^ lowb free) ≤ t free ∧ (∀ x ∈ G.take k, x.testBit (lowb free) = true → prt x free → 1 + t (free ^^^ x) ≤ t free) ∧
  (t free = t (free - 2 ^ lowb free) ∨ ∃ x ∈ G, x.testBit (lowb free) = true ∧ prt x free ∧ t free = 1 + t (free ^^^ x))
def put (t : Nat → Nat) (n v : Nat) : Nat → Nat := fun i => if i = n then v else t i
theorem put_same (t : Nat → Nat) (n v : Nat) : put t n v n = v := if_pos rfl
theorem put_other {t : Nat → Nat} {n v i : Nat} (h : i ≠ n) : put t n v i = t i := if_neg h
theorem bit_ne {x i : Nat} (h : x.testBit i = true) : x ≠ 0 := by rintro rfl; simp at h
/-- A place that is not yet reached may be turned. -/
theorem TabN.put {G : List Nat} {t : Nat → Nat} {n : Nat} (h : TabN G t n) (h0 : 0 < n) (hn : n ≤ 256) {m : Nat} (hm : n ≤ m) (v : Nat) : TabN G (put t m v) n := by
  refine ⟨by rw [put_other (by omega)]; exact h.1, fun free hf0 hf => ?_⟩
  obtain ⟨h1, h2, h3⟩ := h.2 free hf0 hf
  have hl := (low_is free (by omega) hf0).2.2.2.2
  have e1 : Go.Proofs.YtmlbgfnddgbpbaaGreat.put t m v free = t free := put_other (by omega)
  have e2 : Go.Proofs.YtmlbgfnddgbpbaaGreat.put t m v (free - 2 ^ lowb free) = t (free - 2 ^ lowb free) := put_other (by omega)
  have e3 : ∀ x, x.testBit (lowb free) = true → prt x free → Go.Proofs.YtmlbgfnddgbpbaaGreat.put t m v (free ^^^ x) = t (free ^^^ x) := fun x hx hp => put_other (by have := Apt.xor_lt hp (bit_ne hx); omega)
  rw [e1, e2]
  exact ⟨h1, fun x hx hb hp => by rw [e3 x hb hp]; exact h2 x hx hb hp, h3.imp id fun ⟨x, hx, hb, hp, e⟩ => ⟨x, hx, hb, hp, by rw [e3 x hb hp]; exact e⟩⟩
theorem TabN.next {G : List Nat} {t : Nat → Nat} {n : Nat} (h : TabN G t n) (hx : TabX G t n G.length) : TabN G t (n + 1) := by
  refine ⟨h.1, fun free hf0 hf => ?_⟩
  by_cases e : free = n
  · subst e
    unfold TabX at hx
    rwa [List.take_length] at hx
  · exact h.2 free hf0 (by omega)
theorem TabX.start {G : List Nat} {t : Nat → Nat} {n : Nat} (h0 : 0 < n) (hn : n < 256) : TabX G (Go.Proofs.YtmlbgfnddgbpbaaGreat.put t n (t (n - 2 ^ lowb n))) n 0 := by
  have hl := (low_is n hn h0).2.2.2.2
  unfold TabX
  rw [put_same, put_other (by omega)]
  exact ⟨Nat.le_refl _, by simp, .inl rfl⟩
theorem TabX.no {G : List Nat} {t : Nat → Nat} {n k x : Nat} (h : TabX G t n k) (hx : G[k]? = some x) (hc : ¬ (x.testBit (lowb n) = true ∧ prt x n)) : TabX G t n (k + 1) := by
  refine ⟨h.1, fun y hy hb hp => ?_, h.2.2⟩
  rw [List.take_add_one, hx, List.mem_append] at hy
  rcases hy with hy | hy
  · exact h.2.1 y hy hb hp
  · simp at hy; subst hy; exact absurd ⟨hb, hp⟩ hc
theorem TabX.yes {G : List Nat} {t : Nat → Nat} {n k x : Nat} (h : TabX G t n k) (h0 : 0 < n) (hn : n < 256) (hx : G[k]? = some x) (hb : x.testBit (lowb n) = true) (hp : prt x n) : TabX G (Go.Proofs.YtmlbgfnddgbpbaaGreat.put t n (max (t n) (1 + t (n ^^^ x)))) n (k + 1) := by
  have hl := (low_is n hn h0).2.2.2.2
  have e3 : ∀ x v, x.testBit (lowb n) = true → prt x n → Go.Proofs.YtmlbgfnddgbpbaaGreat.put t n v (n ^^^ x) = t (n ^^^ x) := fun x v hx hp => put_other (by have := Apt.xor_lt hp (bit_ne hx); omega)
  unfold TabX
  rw [put_same, put_other (by omega)]
  refine ⟨Nat.le_trans h.1 (Nat.le_max_left _ _), fun y hy hyb hyp => ?_, ?_⟩
  · rw [e3 y _ hyb hyp]
    rw [List.take_add_one, hx, List.mem_append] at hy
    rcases hy with hy | hy
    · exact Nat.le_trans (h.2.1 y hy hyb hyp) (Nat.le_max_left _ _)
    · simp at hy; subst hy; exact Nat.le_max_right _ _
  · rcases Nat.le_total (t n) (1 + t (n ^^^ x)) with hle | hle
    · rw [Nat.max_eq_right hle]
      exact .inr ⟨x, List.mem_of_getElem? hx, hb, hp, by rw [e3 x _ hb hp]⟩
    · rw [Nat.max_eq_left hle]
      rcases h.2.2 with e | ⟨y, hy, hyb, hyp, e⟩
      · exact .inl e
      · exact .inr ⟨y, hy, hyb, hyp, by rw [e3 y _ hyb hyp]; exact e⟩
end Go.Proofs.YtmlbgfnddgbpbaaGreat

namespace Go.Proofs.YtmlbgfnddgbpbaaGreat
open Go.RowKit
open Mk

def arrT (t : Nat → Nat) : Array Value := ((List.range 256).map fun i => Value.int .i64 (t i : Int)).toArray
theorem arrT_cell {w : World} {b : Nat} {t : Nat → Nat} {e : TypeId} (h : w.heap[b]? = some (.cells (arrT t) e (0, 0))) {k : Nat} (hk : k < 256) : w.cell? ⟨b, k, none⟩ = some (.int .i64 (t k : Int)) := by
  unfold World.cell?; simp only [h]; simp [arrT, hk]
theorem arrT_free {w : World} {b : Nat} {t : Nat → Nat} {e : TypeId} (h : w.heap[b]? = some (.cells (arrT t) e (0, 0))) (o : Nat) : w.frozen? ⟨b, o, none⟩ = false := by
  simp [World.frozen?, h]
theorem arrT_put (t : Nat → Nat) {k : Nat} (v : Nat) : ((List.range 256).map fun i => Value.int .i64 (t i : Int)).set k (.int .i64 (v : Int)) = (List.range 256).map fun i => Value.int .i64 (put t k v i : Int) := by
  refine List.ext_getElem? fun j => ?_
  rw [List.getElem?_set]
  by_cases hj : j < 256
  · rw [List.getElem?_map, List.getElem?_map, List.getElem?_range hj]
    by_cases e : k = j
    · subst e; simp [hj, put_same]
    · rw [if_neg e]; simp [put_other (Ne.symm e)]
  · have h1 : ∀ f : Nat → Value, ((List.range 256).map f)[j]? = none := fun f => by simp; omega
    rw [h1, h1]; simp; omega
theorem arrT_set {w : World} {b : Nat} {t : Nat → Nat} {e : TypeId} (h : w.heap[b]? = some (.cells (arrT t) e (0, 0))) (k v : Nat) :
    (w.setCell ⟨b, k, none⟩ (.int .i64 (v : Int))).heap[b]? = some (.cells (arrT (put t k v)) e (0, 0)) := by
  rw [heap_setCell_same w b _ _ e _ h]
  simp only [arrT, List.setIfInBounds_toArray, arrT_put]
set_option maxRecDepth 100000 in
set_option maxHeartbeats 16000000 in
theorem rmost_any (G : List Nat) (hG : ∀ x ∈ G, x < 256) (u : Nat) (hu : u < 256) (v : Value) (w : World) (hv : IntsAt w v (nI G)) (R : Ending → World → Prop) (hR : ∀ w' t, Grow w w' → Apt.Tab G t → R (.returned (.int .i64 (t (255 ^^^ u) : Int))) w') :
    Calls Tryz.prog 106 #[v, .int .i64 (u : Int)] w R := by
  have HV := Lib.hid hv
  have HGL := Lib.hid hG
  have HR := Lib.hid hR
  obtain ⟨a, c, rfl, q1, q2, _⟩ := hv
  rw [nI_len] at HV q1 ⊢
  have hmk : ∀ W, (Instr.makeSlice 29 (.int .i64 256) (.int .i64 256)).run Tryz.prog W = .ok (.slice (some ⟨W.heap.size, 0, none⟩) 256 256) (W.alloc (.cells (arrT fun _ => 0) 3)) := fun W => by kernel_rfl
  clear hR hG
  go_enter Tryz.func106, Tryz.ntmps106
  go_wp2_with fail
  have hg1 := (Grow.refl w).alloc (.cells (arrT fun _ => 0) 3)
  have hb1 := heap_alloc_new w (.cells (arrT fun _ => 0) 3)
  generalize w.alloc (.cells (arrT fun _ => 0) 3) = W at hg1 hb1 ⊢
  obtain ⟨g, hgz⟩ : ∃ g, w.heap.size = g := ⟨_, rfl⟩
  rw [hgz] at hb1 ⊢
  have hwg : w.heap.size ≤ g := by omega
  have HB1 := Lib.hid hb1
  have HG1 := Lib.hid hg1
  clear hb1 hg1 hgz hmk
  go_loopw [6, 7, 8] (fun fv _ _ wr => ∃ (n : Nat) (t : Nat → Nat), 1 ≤ n ∧ n ≤ 256 ∧ fv = .int .i64 n ∧ Grow w wr ∧ wr.heap[g]? = some (.cells (arrT t) 3 (0, 0)) ∧ TabN G t n ∧ ∀ i, t i ≤ i) (fun fv _ _ _ => 256 - (intOf fv).toNat)
  case atStart => exact ⟨1, fun _ => 0, by omega, by omega, rfl, HG1.out, HB1.out, ⟨rfl, fun free h0 h1 => by omega⟩, fun _ => Nat.zero_le _⟩
  case round =>
    obtain ⟨n, t, hn1, hn2, rfl, hg, hb, htn, hti⟩ := hrel
    have HG := Lib.hid hg
    have HB := Lib.hid hb
    have HTN := Lib.hid htn
    have HTI := Lib.hid hti
    have hzg := lt_of_block hb
    clear hg hb htn hti
    by_cases hlt : n < 256
    · obtain ⟨hl1, hl2, hl3, hl4, hl5⟩ := low_is n hlt (by omega)
      have hlp := pow_lt8 hl2
      obtain ⟨lw, hlw⟩ : ∃ z, 2 ^ lowb n = z := ⟨_, rfl⟩
      rw [hlw] at hl3 hl4 hl5 hlp
      have hneg : IntKind.i64.wrap (-(n : Int)) = -(n : Int) := IntWalk.i64_in _ (by omega)
      have han := andnot_is (a := n) (b := lw) hlt hlp
      rw [hl4] at han
      have hn3 : (n : Int) < 256 := by omega
      have c1 := arrT_cell HB.out (k := n - lw) (by omega)
      have c2 := arrT_cell HB.out (k := n) hlt
      have hfr := arrT_free HB.out n
      have HLW := Lib.hid hlw
      obtain ⟨y, hy⟩ : ∃ y, n - lw = y := ⟨_, rfl⟩
      have hy256 : y < n := by omega
      rw [hy] at han c1
      have HY := Lib.hid hy
      have hl0 := HTI.out y
      obtain ⟨ty, hty⟩ : ∃ z, t y = z := ⟨_, rfl⟩
      rw [hty] at c1 hl0
      have HTY := Lib.hid hty
      have hy3 : (y : Int) < 256 := by omega
      clear hlw hy hty hl1 hl2 hl4 hl5
      go_wp2_with fail
      have hg2 : Grow w (wr.setCell ⟨g, n, none⟩ (.int .i64 (ty : Int))) := Below.setCell HG.out hwg _
      have hb2 := arrT_set HB.out n ty
      have htn2 := HTN.out.put (by omega) hn2 (Nat.le_refl n) ty
      have htx2 := TabX.start (G := G) (t := t) (n := n) (by omega) hlt
      rw [HLW.out, HY.out, HTY.out] at htx2
      have hti2 : ∀ i, put t n ty i ≤ i := fun i => by
        unfold put
        split
        · omega
        · exact HTI.out i
      have HTN2 := Lib.hid htn2
      have HTX2 := Lib.hid htx2
      have HTI2 := Lib.hid hti2
      have HB2 := Lib.hid hb2
      have HG2 := Lib.hid hg2
      obtain ⟨t2, ht2⟩ : ∃ z, put t n ty = z := ⟨_, rfl⟩
      rw [ht2] at HTN2 HTX2 HTI2 HB2
      generalize wr.setCell ⟨g, n, none⟩ (.int .i64 (ty : Int)) = w2 at HB2 HG2 ⊢
      clear hg2 hb2 htn2 htx2 hti2 ht2 c1 c2 hfr hl3 hneg han hzg
      go_loopw [8] (fun iv wx => ∃ (k : Nat) (t' : Nat → Nat), k ≤ G.length ∧ iv = .int .i64 k ∧ Grow w wx ∧ wx.heap[g]? = some (.cells (arrT t') 3 (0, 0)) ∧ TabN G t' n ∧ TabX G t' n k ∧ ∀ i, t' i ≤ i) (fun iv _ => G.length - (intOf iv).toNat)
      case atStart => exact ⟨0, t2, Nat.zero_le _, rfl, HG2.out, HB2.out, HTN2.out, HTX2.out, HTI2.out⟩
      case round =>
        obtain ⟨k, t', hk, rfl, hg3, hb3, htn3, htx3, hti3⟩ := hrel
        have HG3 := Lib.hid hg3
        have HB3 := Lib.hid hb3
        have HTN3 := Lib.hid htn3
        have HTX3 := Lib.hid htx3
        have HTI3 := Lib.hid hti3
        have hzg := lt_of_block hb3
        clear hg3 hb3 htn3 htx3 hti3
        by_cases hlk : k < G.length
        · obtain ⟨x, hx⟩ : ∃ x, G[k]? = some x := ⟨_, List.getElem?_eq_getElem hlk⟩
          have hx256 := HGL.out x (List.mem_of_getElem? hx)
          have hk2 : (k : Int) < (G.length : Int) := by omega
          obtain ⟨xb, xo, hxa, hxb, e0⟩ := ints_at (HV.out.grow HG3.out) (nI_at hx)
          subst hxa
          have hand := Mk.bits_and x lw (by omega) (by omega)
          have hxn := andnot_is (a := x) (b := n) hx256 hlt
          have hpr := Apt.in_free (v := x) hlt
          have hbt := pow_meets (x := x) (i := lowb n)
          rw [HLW.out] at hbt
          have HX := Lib.hid hx
          obtain ⟨z1, hz1⟩ : ∃ z, x &&& lw = z := ⟨_, rfl⟩
          obtain ⟨z2, hz2⟩ : ∃ z, x &&& (255 ^^^ n) = z := ⟨_, rfl⟩
          rw [hz1] at hand hbt
          rw [hz2] at hxn hpr
          have HBT := Lib.hid hbt
          have HPR := Lib.hid hpr
          clear hx hz1 hz2 hbt hpr
          by_cases h1 : z1 = 0
          · have t4 : ((z1 : Int) != 0) = false := by rw [h1]; rfl
            have HTX4 := Lib.hid (HTX3.out.no HX.out fun h => HBT.out.2 h.1 h1)
            clear h1
            go_wp2_with fail
            go_roundw
            case rel => exact ⟨k + 1, t', by omega, by go_num, HG3.out, HB3.out, HTN3.out, HTX4.out, HTI3.out⟩
            case measure => simp [intOf]; omega
          · have t4 : ((z1 : Int) != 0) = true := bne_iff_ne.2 (by omega)
            by_cases h2 : z2 = 0
            · have t5 : ((z2 : Int) == 0) = true := by rw [h2]; rfl
              have hb := HBT.out.1 h1
              have hp := HPR.out.1 ⟨hx256, h2⟩
              have hnx := andnot_is (a := n) (b := x) hlt hx256
              rw [andnot_prt hlt hp] at hnx
              have hx0 := Apt.xor_lt hp (bit_ne hb)
              have HTX4 := Lib.hid (HTX3.out.yes (by omega) hlt HX.out hb hp)
              obtain ⟨z3, hz3⟩ : ∃ z, n ^^^ x = z := ⟨_, rfl⟩
              rw [hz3] at hnx hx0 HTX4
              have hz4 : (z3 : Int) < 256 := by omega
              have c1 := arrT_cell HB3.out (k := n) hlt
              have c2 := arrT_cell HB3.out (k := z3) (by omega)
              have hfr := arrT_free HB3.out n
              have hl0 := HTI3.out z3
              have hl1 := HTI3.out n
              have hb4 := arrT_set HB3.out n (max (t' n) (1 + t' z3))
              have hti4 : ∀ i, put t' n (max (t' n) (1 + t' z3)) i ≤ i := fun i => by
                unfold put
                split
                · omega
                · exact HTI3.out i
              have HTN4 := Lib.hid (HTN3.out.put (by omega) hn2 (Nat.le_refl n) (max (t' n) (1 + t' z3)))
              have HTI4 := Lib.hid hti4
              have HB4 := Lib.hid hb4
              obtain ⟨ta, hta⟩ : ∃ z, t' n = z := ⟨_, rfl⟩
              obtain ⟨tb, htb⟩ : ∃ z, t' z3 = z := ⟨_, rfl⟩
              rw [hta] at c1 hl1
              rw [htb] at c2 hl0
              rw [hta, htb] at HTX4 HTN4 HTI4 HB4
              obtain ⟨td, htd⟩ : ∃ z, 1 + tb = z := ⟨_, rfl⟩
              have hwr : IntKind.i64.wrap (1 + (tb : Int)) = (td : Int) := by rw [IntWalk.i64_in _ (by omega)]; omega
              rw [htd] at HTX4 HTN4 HTI4 HB4
              clear hb hp hb4 hti4 hz3 hta htb h1 h2 htd hl0 hl1
              by_cases hgt : (td : Int) > (ta : Int)
              · rw [Nat.max_eq_right (by omega)] at HTX4 HTN4 HTI4 HB4
                have HGE := Lib.hid (show Grow w (wr.setCell ⟨g, n, none⟩ (.int .i64 (td : Int))) from Below.setCell HG3.out hwg _)
                go_wp2_with fail
                go_region
                go_wp2_with fail
                go_roundw
                case rel => exact ⟨k + 1, put t' n td, by omega, by go_num, HGE.out.drew, HB4.out, HTN4.out, HTX4.out, HTI4.out⟩
                case measure => simp [intOf]; omega
              · rw [Nat.max_eq_left (by omega)] at HTX4 HTN4 HTI4 HB4
                have HGE := Lib.hid (show Grow w (wr.setCell ⟨g, n, none⟩ (.int .i64 (ta : Int))) from Below.setCell HG3.out hwg _)
                go_wp2_with fail
                go_region
                go_wp2_with fail
                go_roundw
                case rel => exact ⟨k + 1, put t' n ta, by omega, by go_num, HGE.out.drew, HB4.out, HTN4.out, HTX4.out, HTI4.out⟩
                case measure => simp [intOf]; omega
            · have t5 : ((z2 : Int) == 0) = false := beq_eq_false_iff_ne.2 (by omega)
              have HTX4 := Lib.hid (HTX3.out.no HX.out fun h => h2 (HPR.out.2 h.2).2)
              clear h1 h2
              go_wp2_with fail
              go_roundw
              case rel => exact ⟨k + 1, t', by omega, by go_num, HG3.out, HB3.out, HTN3.out, HTX4.out, HTI3.out⟩
              case measure => simp [intOf]; omega
        · have hk2 : ¬ (k : Int) < (G.length : Int) := by omega
          have hke : k = G.length := by omega
          have htx5 := HTX3.out
          rw [hke] at htx5
          have HTN5 := Lib.hid (HTN3.out.next htx5)
          clear hlk hke htx5
          go_wp2_with fail
          go_roundw
          case rel => exact ⟨n + 1, t', by omega, by omega, by go_num, HG3.out, HB3.out, HTN5.out, HTI3.out⟩
          case measure => simp [intOf]; omega
    · have hn3 : ¬ (n : Int) < 256 := by omega
      have hne : n = 256 := by omega
      have htn := HTN.out
      rw [hne] at htn
      have HT := Lib.hid htn.tab
      have hun := andnot_is (a := 255) (b := u) (by omega) hu
      have h255 : 255 &&& (255 ^^^ u) = 255 ^^^ u := by
        have key : ∀ u : Nat, u < 256 → 255 &&& (255 ^^^ u) = 255 ^^^ u := by decide +kernel
        exact key u hu
      have hlx : 255 ^^^ u < 256 := by
        have key : ∀ u : Nat, u < 256 → 255 ^^^ u < 256 := by decide +kernel
        exact key u hu
      rw [h255] at hun
      rw [show ((255 : Nat) : Int) = 255 from rfl] at hun
      have c1 := arrT_cell HB.out (k := 255 ^^^ u) hlx
      have HF := Lib.hid (HR.out wr t HG.out HT.out)
      obtain ⟨z, hz⟩ : ∃ z, 255 ^^^ u = z := ⟨_, rfl⟩
      rw [hz] at hun c1 HF hlx
      have hz2 : (z : Int) < 256 := by omega
      obtain ⟨tz, htz⟩ : ∃ y, t z = y := ⟨_, rfl⟩
      rw [htz] at c1 HF
      clear htn h255 hz htz hlt hne
      go_wp2_with fail
      exact HF.out
end Go.Proofs.YtmlbgfnddgbpbaaGreat

namespace Go.Proofs.YtmlbgfnddgbpbaaGreat
open Go.RowKit
open Mk

/-- A place that is left: as many are possible behind it, with its set, as are needed. -/
theorem gr_yes {F M : List Nat} {p u x : Nat} (hM : Apt.most F p u = M) (hx : F[p]? = some x) (h0 : x ≠ 0) (hu : x &&& u = 0) (ht : (Apt.most F (p + 1) (u ||| x)).length + 1 = M.length) : M = p :: Apt.most F (p + 1) (u ||| x) := by
  rw [Apt.most_at hx, if_pos ⟨h0, hu⟩] at hM
  by_cases hl : (Apt.most F (p + 1) u).length ≤ (Apt.most F (p + 1) (u ||| x)).length + 1
  · rw [if_pos hl] at hM; exact hM.symm
  · rw [if_neg hl] at hM; rw [hM] at hl; omega
theorem gr_no {F M : List Nat} {p u x : Nat} (hM : Apt.most F p u = M) (hx : F[p]? = some x) (h0 : x ≠ 0) (hu : x &&& u = 0) (ht : (Apt.most F (p + 1) (u ||| x)).length + 1 ≠ M.length) : Apt.most F (p + 1) u = M := by
  rw [Apt.most_at hx, if_pos ⟨h0, hu⟩] at hM
  by_cases hl : (Apt.most F (p + 1) u).length ≤ (Apt.most F (p + 1) (u ||| x)).length + 1
  · rw [if_pos hl] at hM; rw [← hM] at ht; exact absurd rfl ht
  · rw [if_neg hl] at hM; exact hM
theorem gr_skip {F M : List Nat} {p u x : Nat} (hM : Apt.most F p u = M) (hx : F[p]? = some x) (hc : ¬ (x ≠ 0 ∧ x &&& u = 0)) : Apt.most F (p + 1) u = M := by
  rw [Apt.most_at hx, if_neg hc] at hM; exact hM
/-- A set has another one as its part, among the first k. -/
def hasP (F : List Nat) (k x : Nat) : Bool := (F.take k).any fun y => decide (y ≠ 0) && decide (y ≠ x) && decide (y &&& x = y)
def smallX (F : List Nat) (x : Nat) : Nat := if hasP F F.length x then 0 else x
def smallF (F : List Nat) : List Nat := F.map (smallX F)
theorem smallF_lt {F : List Nat} (hF : ∀ x ∈ F, x < 256) : ∀ x ∈ smallF F, x < 256 := fun x hx => by
  obtain ⟨y, hy, rfl⟩ := List.mem_map.1 hx
  unfold smallX
  split
  · omega
  · exact hF y hy
theorem small_sub {F : List Nat} {x : Nat} (hx : x ∈ smallF F) (h0 : x ≠ 0) : x ∈ F := by
  obtain ⟨y, hy, rfl⟩ := List.mem_map.1 hx
  unfold smallX at h0 ⊢
  split at h0
  · exact absurd rfl h0
  · rename_i h; rw [if_neg h]; exact hy
theorem small_has {F : List Nat} : ∀ (n x : Nat), x ≤ n → x ∈ F → x ≠ 0 → ∃ y ∈ smallF F, y ≠ 0 ∧ prt y x
  | 0, x, hn, _, h0 => absurd (by omega) h0
  | n + 1, x, hn, hx, h0 => by
    by_cases hp : hasP F F.length x = true
    · have hp2 := hp
      unfold hasP at hp2
      rw [List.take_length] at hp2
      obtain ⟨y, hy, hc⟩ := List.any_eq_true.1 hp2
      simp only [Bool.and_eq_true, decide_eq_true_eq] at hc
      have hyx : prt y x := hc.2
      have hlt : y ≤ x := part_le hyx
      obtain ⟨z, hz, hz0, hzy⟩ := small_has n y (by have := hc.1.2; omega) hy hc.1.1
      exact ⟨z, hz, hz0, part_iff.2 fun j hj => part_iff.1 hyx j (part_iff.1 hzy j hj)⟩
    · exact ⟨x, List.mem_map.2 ⟨x, hx, by unfold smallX; rw [if_neg hp]⟩, h0, by unfold prt; exact Nat.and_self x⟩
/-- As many of the small sets can be apart as of all. -/
theorem small_most (F : List Nat) : (Apt.most (smallF F) 0 0).length = (Apt.most F 0 0).length := by
  refine Nat.le_antisymm ?_ ?_
  · have h := (Apt.most_is (smallF F) 0 0).sub (H := F) fun x hx h0 => small_sub (by rwa [List.drop_zero] at hx) h0
    have := Apt.pack_most (F := F) (p := 0) (u := 0) (by rw [List.drop_zero]; exact h)
    rwa [List.length_map] at this
  · have h := Apt.most_is F 0 0
    rw [List.drop_zero] at h
    obtain ⟨W, hW, hl⟩ := Apt.pack_small (G := smallF F) (fun x hx h0 => small_has x x (Nat.le_refl _) hx h0) h
    have := Apt.pack_most (F := smallF F) (p := 0) (u := 0) (by rw [List.drop_zero]; exact hW)
    rw [hl, List.length_map] at this
    exact this
/-- What the document's table says of the small sets. -/
theorem need_is {F : List Nat} (hF : ∀ x ∈ F, x < 256) {t : Nat → Nat} (h : Apt.Tab (smallF F) t) : t (255 ^^^ 0) = (Apt.most F 0 0).length := by
  rw [← small_most]
  exact Apt.tab_most h (smallF_lt hF) (by omega) fun x _ => by rw [List.drop_zero]
/-- The first k places with the second j of them looked at: what the row of small sets holds. -/
def smK (F : List Nat) (i k : Nat) : List Nat := (List.range F.length).map fun j => if j < i then smallX F (F.getD j 0) else if j = i ∧ hasP F k (F.getD j 0) = true then 0 else F.getD j 0
theorem smK_len (F : List Nat) (i k : Nat) : (smK F i k).length = F.length := by unfold smK; simp
theorem smK_start (F : List Nat) : smK F 0 0 = F := by
  refine List.ext_getElem? fun j => ?_
  unfold smK
  by_cases h : j < F.length
  · rw [List.getElem?_map, List.getElem?_range h]
    simp [hasP, h]
  · rw [List.getElem?_eq_none (by simp; omega), List.getElem?_eq_none (by omega)]
theorem smK_next (F : List Nat) (i : Nat) : smK F i F.length = smK F (i + 1) 0 := by
  refine List.ext_getElem? fun j => ?_
  unfold smK
  by_cases h : j < F.length
  · rw [List.getElem?_map, List.getElem?_map, List.getElem?_range h]
    simp only [Option.map_some]
    congr 1
    by_cases h1 : j < i
    · rw [if_pos h1, if_pos (by omega)]
    · rw [if_neg h1]
      by_cases h2 : j = i
      · subst h2
        rw [if_pos (show j < j + 1 by omega)]
        unfold smallX
        by_cases h3 : hasP F F.length (F.getD j 0) = true
        · rw [if_pos ⟨rfl, h3⟩, if_pos h3]
        · rw [if_neg (fun h => h3 h.2), if_neg h3]
      · rw [if_neg (fun h => h2 h.1), if_neg (show ¬ j < i + 1 by omega)]
        simp [hasP]
  · rw [List.getElem?_eq_none (by simp; omega), List.getElem?_eq_none (by simp; omega)]
theorem smK_end (F : List Nat) : smK F F.length 0 = smallF F := by
  refine List.ext_getElem? fun j => ?_
  unfold smK smallF
  by_cases h : j < F.length
  · rw [List.getElem?_map, List.getElem?_map, List.getElem?_range h, List.getElem?_eq_getElem h]
    simp [h]
  · rw [List.getElem?_eq_none (by simp; omega), List.getElem?_eq_none (by simp; omega)]
theorem hasP_succ {F : List Nat} {k y x : Nat} (hy : F[k]? = some y) : hasP F (k + 1) x = (hasP F k x || (decide (y ≠ 0) && decide (y ≠ x) && decide (y &&& x = y))) := by
  unfold hasP
  rw [List.take_add_one, hy, List.any_append]; simp
theorem smK_no {F : List Nat} {i k y x : Nat} (hx : F[i]? = some x) (hy : F[k]? = some y) (hc : (decide (y ≠ 0) && decide (y ≠ x) && decide (y &&& x = y)) = false) : smK F i (k + 1) = smK F i k := by
  unfold smK
  refine List.map_congr_left fun j _ => ?_
  by_cases h1 : j < i
  · rw [if_pos h1, if_pos h1]
  · rw [if_neg h1, if_neg h1]
    by_cases h2 : j = i
    · subst h2
      have hj : F.getD j 0 = x := by rw [List.getD_eq_getElem?_getD, hx]; rfl
      rw [hj, hasP_succ hy, hc, Bool.or_false]
    · rw [if_neg (fun h => h2 h.1), if_neg (fun h => h2 h.1)]
theorem smK_yes {F : List Nat} {i k y x : Nat} (hx : F[i]? = some x) (hy : F[k]? = some y) (hc : (decide (y ≠ 0) && decide (y ≠ x) && decide (y &&& x = y)) = true) : (smK F i k).set i 0 = smK F i (k + 1) := by
  refine List.ext_getElem? fun j => ?_
  rw [List.getElem?_set, smK_len]
  have hi := (List.getElem?_eq_some_iff.1 hx).1
  unfold smK
  by_cases h : j < F.length
  · rw [List.getElem?_map, List.getElem?_map, List.getElem?_range h]
    by_cases e : i = j
    · subst e
      have hj : F.getD i 0 = x := by rw [List.getD_eq_getElem?_getD, hx]; rfl
      rw [if_pos rfl, if_pos hi, Option.map_some]
      rw [if_neg (Nat.lt_irrefl i), hj, hasP_succ hy, hc, Bool.or_true, if_pos ⟨rfl, rfl⟩]
    · rw [if_neg e]
      simp only [Option.map_some]
      congr 1
      by_cases h1 : j < i
      · rw [if_pos h1, if_pos h1]
      · rw [if_neg h1, if_neg h1, if_neg (fun h => e h.1.symm), if_neg (fun h => e h.1.symm)]
  · rw [if_neg (by omega), List.getElem?_eq_none (by simp; omega), List.getElem?_eq_none (by simp; omega)]
/-- One set, the equal ones among the first k left out. -/
def onX (F : List Nat) (i k : Nat) : Nat := if (F.take k).contains (F.getD i 0) then 0 else F.getD i 0
theorem onX_start (F : List Nat) (i : Nat) : onX F i 0 = F.getD i 0 := by unfold onX; simp
theorem onX_succ {F : List Nat} {i k y : Nat} (hy : F[k]? = some y) : onX F i (k + 1) = if y = onX F i k then 0 else onX F i k := by
  unfold onX
  rw [List.take_add_one, hy]
  simp only [Option.toList_some, List.contains_append, List.contains_cons, List.contains_nil, Bool.or_false, Bool.or_eq_true, beq_iff_eq]
  by_cases h1 : (F.take k).contains (F.getD i 0) = true
  · rw [if_pos (Or.inl h1), if_pos h1]; simp
  · rw [if_neg h1]
    by_cases h2 : y = F.getD i 0
    · rw [if_pos (Or.inr h2.symm), if_pos h2]
    · rw [if_neg (fun h => h.elim h1 (fun h => h2 h.symm)), if_neg h2]
theorem once_take {F : List Nat} {i : Nat} (hi : i < F.length) : (Apt.once F).take (i + 1) = (Apt.once F).take i ++ [onX F i i] := by
  rw [List.take_add_one, Apt.once_at (List.getElem?_eq_getElem hi)]
  unfold onX
  rw [List.getD_eq_getElem?_getD, List.getElem?_eq_getElem hi]
  rfl
end Go.Proofs.YtmlbgfnddgbpbaaGreat
