/- The walk of the document's behind. -/
import Derived.Test.YtmlbgfnddgbpbaaGreatD35
import Derived.Laws.MakeOwn
namespace Go.Proofs.YtmlbgfnddgbpbaaGreat
open Go.RowKit
open Mk

def arrN (l : List Nat) : Array Value := (l.map fun x : Nat => Value.int .i64 (x : Int)).toArray
theorem arrN_free {w : World} {b : Nat} {l : List Nat} {e : TypeId} (h : w.heap[b]? = some (.cells (arrN l) e (0, 0))) (o : Nat) : w.frozen? ⟨b, o, none⟩ = false := by
  simp [World.frozen?, h]
theorem arrN_cell {w : World} {b : Nat} {l : List Nat} {e : TypeId} (h : w.heap[b]? = some (.cells (arrN l) e (0, 0))) {k x : Nat} (hx : l[k]? = some x) : w.cell? ⟨b, k, none⟩ = some (.int .i64 (x : Int)) := by
  unfold World.cell?; simp only [h]; simp [arrN, hx]
theorem arrN_set {w : World} {b : Nat} {l : List Nat} {e : TypeId} (h : w.heap[b]? = some (.cells (arrN l) e (0, 0))) (k x : Nat) :
    (w.setCell ⟨b, k, none⟩ (.int .i64 (x : Int))).heap[b]? = some (.cells (arrN (l.set k x)) e (0, 0)) := by
  rw [heap_setCell_same w b _ _ e _ h]
  simp [arrN, List.map_set]
theorem arrN_slc {w : World} {b : Nat} {l : List Nat} {e : TypeId} (h : w.heap[b]? = some (.cells (arrN l) e (0, 0))) (hl : l.length ≤ 9223372036854775807) : IntsAt w (.slice (some ⟨b, 0, none⟩) l.length l.length) (nI l) := by
  refine ⟨_, l.length, by rw [nI_len], by rw [nI_len]; exact Nat.le_refl _, hl, .inr ⟨b, 0, rfl, lt_of_block h, ?_⟩⟩
  intro j x hj i u hu
  have hi : i = 0 := by
    have := (List.getElem?_eq_some_iff.1 hu).1
    simp [encI] at this; exact this
  subst hi
  simp [encI] at hu
  subst hu
  rw [Nat.zero_add, Nat.mul_one, Nat.add_zero]
  unfold nI at hj
  rw [List.getElem?_map] at hj
  cases hk : l[j]? with
  | none => rw [hk] at hj; cases hj
  | some y =>
    rw [hk] at hj
    cases hj
    exact arrN_cell h hk
theorem made_ints {w : World} {n : Nat} (hn : n ≤ 70) : (Instr.makeSlice 29 (.int .i64 (n : Int)) (.int .i64 (n : Int))).run Tryz.prog w = .ok (.slice (some ⟨w.heap.size, 0, none⟩) n n) (w.alloc (.cells (arrN (List.replicate n 0)) 3)) := by
  obtain ⟨i, hi, hz0, hz1, hz2⟩ := info_parts info_int
  have h := run_makeSlice (P := Tryz.prog) w 29 3 i (.int .i64 0) Tryz.underlying29 hi hz0 .i64 .i64 (n : Int) (n : Int) (by omega) (by omega) (by rw [hz1]; omega) (by rw [hz2]; omega) (by omega)
  rw [h]
  simp only [Int.toNat_natCast, hz1]
  have : madeCells (Value.int .i64 0).cells (n * 1) = arrN (List.replicate n 0) := by
    rw [Nat.mul_one]
    refine Array.ext (by simp [madeCells, arrN]) fun j h1 h2 => ?_
    simp [madeCells, arrN]
    show (#[Value.int .i64 0] : Array Value)[j % 1]! = _
    rw [Nat.mod_one]
    rfl
  rw [this]
def behK (F : List Nat) (p k : Nat) : List Nat := (List.range F.length).map fun i => if p ≤ i ∧ i < k then F.getD i 0 else 0
def beh (F : List Nat) (p : Nat) : List Nat := behK F p F.length
theorem behK_len (F : List Nat) (p k : Nat) : (behK F p k).length = F.length := by unfold behK; simp
theorem behK_start (F : List Nat) (p : Nat) : behK F p p = List.replicate F.length 0 := by
  refine List.ext_getElem? fun j => ?_
  unfold behK
  rw [List.getElem?_map, List.getElem?_replicate]
  by_cases h : j < F.length
  · rw [List.getElem?_range h]; simp [h]; omega
  · rw [if_neg h, List.getElem?_eq_none (by simp; omega)]; rfl
theorem behK_set {F : List Nat} {p k x : Nat} (hp : p ≤ k) (hx : F[k]? = some x) : (behK F p k).set k x = behK F p (k + 1) := by
  refine List.ext_getElem? fun j => ?_
  rw [List.getElem?_set, behK_len]
  have hk := (List.getElem?_eq_some_iff.1 hx).1
  unfold behK
  by_cases h : j < F.length
  · rw [List.getElem?_map, List.getElem?_map, List.getElem?_range h]
    by_cases e : k = j
    · subst e
      simp [hk, hp]
      exact (List.getElem?_eq_some_iff.1 hx).2.symm
    · rw [if_neg e]
      simp only [Option.map_some]
      congr 1
      by_cases hc : p ≤ j ∧ j < k
      · rw [if_pos hc, if_pos (by omega)]
      · rw [if_neg hc, if_neg (by omega)]
  · have e1 : ∀ f : Nat → Nat, ((List.range F.length).map f)[j]? = none := fun f => by simp; omega
    rw [e1, e1]; simp; omega
theorem beh_mem {F : List Nat} {p x : Nat} (h0 : x ≠ 0) : x ∈ beh F p ↔ x ∈ F.drop p := by
  unfold beh behK
  rw [List.mem_map]
  constructor
  · rintro ⟨i, hi, e⟩
    have hi := List.mem_range.1 hi
    by_cases hc : p ≤ i ∧ i < F.length
    · rw [if_pos hc] at e
      refine List.mem_of_getElem? (i := i - p) ?_
      rw [List.getElem?_drop, show p + (i - p) = i by omega, List.getElem?_eq_getElem hi]
      rw [List.getD_eq_getElem?_getD, List.getElem?_eq_getElem hi] at e
      simpa using e
    · rw [if_neg hc] at e; exact absurd e.symm h0
  · intro h
    obtain ⟨i, hi⟩ := List.mem_iff_getElem?.1 h
    rw [List.getElem?_drop] at hi
    have hl := (List.getElem?_eq_some_iff.1 hi).1
    exact ⟨p + i, List.mem_range.2 hl, by rw [if_pos ⟨by omega, hl⟩, List.getD_eq_getElem?_getD, hi]; rfl⟩
theorem beh_lt {F : List Nat} (hF : ∀ x ∈ F, x < 256) (p : Nat) : ∀ x ∈ beh F p, x < 256 := fun x hx => by
  by_cases h : x = 0
  · omega
  · exact hF x (List.mem_of_mem_drop ((beh_mem h).1 hx))
set_option maxRecDepth 100000 in
set_option maxHeartbeats 4000000 in
theorem rbehind_any (F : List Nat) (p : Nat) (hp : p ≤ F.length) (hl : F.length ≤ 70) (v : Value) (w : World) (hv : IntsAt w v (nI F)) (R : Ending → World → Prop) (hR : ∀ w' v, Grow w w' → IntsAt w' v (nI (beh F p)) → R (.returned v) w') :
    Calls Tryz.prog 107 #[v, .int .i64 (p : Int)] w R := by
  have HV := Lib.hid hv
  have HR := Lib.hid hR
  obtain ⟨a, c, rfl, q1, q2, _⟩ := hv
  rw [nI_len] at HV q1 ⊢
  have hmk := fun w : World => made_ints (w := w) hl
  clear hR
  go_enter Tryz.func107, Tryz.ntmps107
  go_wp2_with fail
  have hg1 := (Grow.refl w).alloc (.cells (arrN (List.replicate F.length 0)) 3)
  have hb1 := heap_alloc_new w (.cells (arrN (List.replicate F.length 0)) 3)
  generalize w.alloc (.cells (arrN (List.replicate F.length 0)) 3) = W at hg1 hb1 ⊢
  obtain ⟨g, hgz⟩ : ∃ g, w.heap.size = g := ⟨_, rfl⟩
  rw [hgz] at hb1 ⊢
  rw [← behK_start F p] at hb1
  have hwg : w.heap.size ≤ g := by omega
  have HB1 := Lib.hid hb1
  have HG1 := Lib.hid hg1
  clear hb1 hg1 hgz hmk
  go_loopw [6] (fun iv wr => ∃ k : Nat, p ≤ k ∧ k ≤ F.length ∧ iv = .int .i64 k ∧ Grow w wr ∧ wr.heap[g]? = some (.cells (arrN (behK F p k)) 3 (0, 0))) (fun iv _ => F.length - (intOf iv).toNat)
  case atStart => exact ⟨p, Nat.le_refl _, hp, rfl, HG1.out, HB1.out⟩
  case round =>
    obtain ⟨k, hpk, hk, rfl, hg, hb⟩ := hrel
    have HG := Lib.hid hg
    have HB := Lib.hid hb
    have hzg := lt_of_block hb
    clear hg hb
    by_cases hlt : k < F.length
    · obtain ⟨x, hx⟩ : ∃ x, F[k]? = some x := ⟨_, List.getElem?_eq_getElem hlt⟩
      have hk2 : (k : Int) < (F.length : Int) := by omega
      obtain ⟨xb, xo, hxa, hxb, e0⟩ := ints_at (HV.out.grow HG.out) (nI_at hx)
      subst hxa
      have hfr := arrN_free HB.out k
      have hcl := arrN_cell HB.out (k := k) (x := (behK F p k)[k]'(by rw [behK_len]; exact hlt)) (List.getElem?_eq_getElem _)
      have hb2 := arrN_set HB.out k x
      rw [behK_set hpk hx] at hb2
      have HB2 := Lib.hid hb2
      have HG2 := Lib.hid (show Grow w (wr.setCell ⟨g, k, none⟩ (.int .i64 (x : Int))) from Below.setCell HG.out hwg _)
      clear hx hb2
      go_wp2_with fail
      go_roundw
      case rel => exact ⟨k + 1, by omega, by omega, by go_num, HG2.out, HB2.out⟩
      case measure => simp [intOf]; omega
    · have hk2 : ¬ (k : Int) < (F.length : Int) := by omega
      have hke : k = F.length := by omega
      have hb := HB.out
      rw [hke] at hb
      have hs := arrN_slc hb (by rw [behK_len]; omega)
      rw [behK_len] at hs
      have HF := Lib.hid (HR.out wr _ HG.out hs)
      clear hb hs hlt hke
      go_wp2_with fail
      exact HF.out
end Go.Proofs.YtmlbgfnddgbpbaaGreat
