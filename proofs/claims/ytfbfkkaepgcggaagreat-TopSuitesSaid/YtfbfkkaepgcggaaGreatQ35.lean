/- The walk of the function value that searches for the best order. -/
import Derived.Test.YtfbfkkaepgcggaaGreatQ15
import Derived.Test.YtfbfkkaepgcggaaGreatQ16
import Derived.Test.YtfbfkkaepgcggaaGreatQ06
import Derived.Test.YtfbfkkaepgcggaaGreatQ32
import Derived.Test.YtfbfkkaepgcggaaGreatQ02
import Derived.Test.YtfbfkkaepgcggaaGreatQ14
import Derived.Deep.RegionHeld3
namespace Go.Proofs.YtfbfkkaepgcggaaGreat
open Go.RowKit

/-- Everything but two blocks stays. -/
def KeepB (bL bB : Nat) (X Y : World) : Prop := X.heap.size ≤ Y.heap.size ∧ ∀ j o, j ≠ bL → j ≠ bB → X.heap[j]? = some o → Y.heap[j]? = some o
theorem KeepB.refl (bL bB : Nat) (X : World) : KeepB bL bB X X := ⟨Nat.le_refl _, fun _ _ _ _ h => h⟩
theorem KeepB.trans {bL bB : Nat} {X Y Z : World} (h : KeepB bL bB X Y) (k : KeepB bL bB Y Z) : KeepB bL bB X Z := ⟨Nat.le_trans h.1 k.1, fun j o h1 h2 hj => k.2 j o h1 h2 (h.2 j o h1 h2 hj)⟩
theorem KeepB.grow {bL bB : Nat} {X Y : World} (g : Grow X Y) : KeepB bL bB X Y := ⟨g.sz, fun _ _ _ _ h => g.blk h⟩
theorem KeepB.set1 {bL bB : Nat} (X : World) (v : Value) : KeepB bL bB X (X.setCell ⟨bL, 0, none⟩ v) := ⟨by rw [World.size_setCell]; exact Nat.le_refl _, fun j o h1 _ h => by rw [Below.heap_setCell _ _ _ _ h1]; exact h⟩
theorem KeepB.set2 {bL bB : Nat} (X : World) (v : Value) : KeepB bL bB X (X.setCell ⟨bB, 0, none⟩ v) := ⟨by rw [World.size_setCell]; exact Nat.le_refl _, fun j o _ h2 h => by rw [Below.heap_setCell _ _ _ _ h2]; exact h⟩
/-- A list that lies in neither block. -/
def OffB (bL bB : Nat) (v : Value) : Prop := ∀ a n c, v = .slice (some a) n c → a.block ≠ bL ∧ a.block ≠ bB
theorem OffB.nil (bL bB n c : Nat) : OffB bL bB (.slice none n c) := fun a _ _ h => by cases h
theorem OffB.of_new {bL bB base : Nat} {v : Value} (h : NewS base v) (h1 : bL < base) (h2 : bB < base) : OffB bL bB v := fun a n c e => by
  have := h a n c e
  omega
theorem ints_keepB {bL bB : Nat} {X Y : World} {v : Value} {xs : List Int} (h : IntsAt X v xs) (hv : OffB bL bB v) (k : KeepB bL bB X Y) : IntsAt Y v xs := by
  obtain ⟨a, c, rfl, h1, h2, h3⟩ := h
  refine ⟨a, c, rfl, h1, h2, h3.imp id ?_⟩
  rintro ⟨b, o, rfl, hb, hc⟩
  obtain ⟨o1, o2⟩ := hv _ _ _ rfl
  obtain ⟨ob, hob⟩ : ∃ ob, X.heap[b]? = some ob := ⟨_, Array.getElem?_eq_getElem hb⟩
  have e := k.2 b ob o1 o2 hob
  refine ⟨b, o, rfl, lt_of_block e, fun j x hx i u hu => ?_⟩
  rw [← hc j x hx i u hu]
  unfold World.cell?
  simp only [e, hob]
/-- What the search for the best order holds: the boxes; the best order so far and how long it waits. -/
structure BsI (w : World) (hit : Nat → Nat → Bool) (G n : Nat) (tv : Value) (bM bT bL bB bG : Nat) (best : List Nat) (X : World) : Prop where
  grow : Grow w X
  bm : X.heap[bM]? = some (.cells #[.int .i64 ((openH hit G n).length : Nat)] 3 (0, 0))
  bt : X.heap[bT]? = some (.cells #[tv] 22 (0, 0))
  bg : X.heap[bG]? = some (.cells #[.func (.func 40) #[] #[.pointer (some ⟨bM, 0, none⟩), .pointer (some ⟨bT, 0, none⟩), .pointer (some ⟨bL, 0, none⟩), .pointer (some ⟨bB, 0, none⟩), .pointer (some ⟨bG, 0, none⟩)]] 73 (0, 0))
  bl : X.heap[bL]? = some (.cells #[.int .i64 (waitH hit (openH hit G n) best : Nat)] 3 (0, 0))
  bb : ∃ bv, X.heap[bB]? = some (.cells #[bv] 25 (0, 0)) ∧ IntsAt X bv (natL best) ∧ OffB bL bB bv ∧ ∃ a c, bv = .slice a best.length c
  perm : best.Perm (List.range n)
/-- The boxes' numbers. -/
structure BsN (w : World) (bM bT bL bB bG : Nat) : Prop where
  l0 : w.heap.size ≤ bL
  b0 : w.heap.size ≤ bB
  lb : bL ≠ bB
  ml : bM ≠ bL
  mb : bM ≠ bB
  tl : bT ≠ bL
  tb : bT ≠ bB
  gl : bG ≠ bL
  gb : bG ≠ bB
theorem BsI.step {w : World} {hit : Nat → Nat → Bool} {G n : Nat} {tv : Value} {bM bT bL bB bG : Nat} {best : List Nat} {X Y : World} (h : BsI w hit G n tv bM bT bL bB bG best X) (g : Grow X Y) : BsI w hit G n tv bM bT bL bB bG best Y :=
  let ⟨bv, h1, h2, h3, h4⟩ := h.bb
  ⟨h.grow.trans g, g.blk h.bm, g.blk h.bt, g.blk h.bg, g.blk h.bl, ⟨bv, g.blk h1, h2.grow g, h3, h4⟩, h.perm⟩
theorem BsI.full {w : World} {hit : Nat → Nat → Bool} {G n : Nat} {tv : Value} {bM bT bL bB bG : Nat} {best p : List Nat} {X : World} (h : BsI w hit G n tv bM bT bL bB bG best X) (N : BsN w bM bT bL bB bG) {ov : Value} (hi : IntsAt X ov (natL p)) (ho : OffB bL bB ov) (hs : ∃ a c, ov = .slice a p.length c) (hp : p.Perm (List.range n)) :
    BsI w hit G n tv bM bT bL bB bG p ((X.setCell ⟨bB, 0, none⟩ ov).setCell ⟨bL, 0, none⟩ (.int .i64 (partH hit (openH hit G n) p : Nat))) := by
  obtain ⟨bv, h1, h2, h3, h4⟩ := h.bb
  have k0 : KeepB bL bB X ((X.setCell ⟨bB, 0, none⟩ ov).setCell ⟨bL, 0, none⟩ (.int .i64 (partH hit (openH hit G n) p : Nat))) := (KeepB.set2 X ov).trans (KeepB.set1 _ _)
  have hbl2 : (X.setCell ⟨bB, 0, none⟩ ov).heap[bL]? = some (.cells #[.int .i64 (waitH hit (openH hit G n) best : Nat)] 3 (0, 0)) := by rw [Below.heap_setCell _ _ _ _ N.lb]; exact h.bl
  refine ⟨Below.setCell (Below.setCell h.grow N.b0 _) N.l0 _, k0.2 _ _ N.ml N.mb h.bm, k0.2 _ _ N.tl N.tb h.bt, k0.2 _ _ N.gl N.gb h.bg, ?_, ⟨ov, ?_, ints_keepB hi ho k0, ho, hs⟩, hp⟩
  · rw [heap_setCell_same _ bL _ _ _ _ hbl2, best_full hp]; rfl
  · rw [Below.heap_setCell _ _ _ _ (Ne.symm N.lb), heap_setCell_same X bB _ _ _ _ h1]; rfl
set_option maxRecDepth 100000 in
set_option maxHeartbeats 32000000 in
theorem grow_any (T : List (List Int)) (hv : ValS T) (w : World) (a : Option Addr) (n c : Nat) (hN : T.length = n) (hx : FamAt w (.slice a n c) T) (hit : Nat → Nat → Bool) (G : Nat) (hH : hitS T = hit) (hG : goalsS T = G) (bM bT bL bB bG : Nat) (N : BsN w bM bT bL bB bG) :
    ∀ (k : Nat) (p q best : List Nat) (ov : Value) (X : World), k + p.length = n → BsI w hit G n (.slice a n c) bM bT bL bB bG best X → IntsAt X ov (natL p) → OffB bL bB ov → (p ++ q).Perm (List.range n) →
    ∀ R : Ending → World → Prop, (∀ X' best', BsI w hit G n (.slice a n c) bM bT bL bB bG best' X' → KeepB bL bB X X' → waitH hit (openH hit G n) best' ≤ waitH hit (openH hit G n) best → (∀ o : List Nat, o.Perm (List.range n) → p <+: o → waitH hit (openH hit G n) best' ≤ waitH hit (openH hit G n) o) → R (.returned (.tuple #[])) X') →
    Calls Tryz.prog 40 #[ov, .int .i64 (partH hit (openH hit G n) p : Nat), .pointer (some ⟨bM, 0, none⟩), .pointer (some ⟨bT, 0, none⟩), .pointer (some ⟨bL, 0, none⟩), .pointer (some ⟨bB, 0, none⟩), .pointer (some ⟨bG, 0, none⟩)] X R := by
  intro k
  induction k using Nat.strongRecOn with
  | _ k ih =>
  intro p q best ov X hk hI hi ho hpq R hR
  have HIH := Lib.hid ih
  have HI := Lib.hid hI
  have HOI := Lib.hid hi
  have HOB := Lib.hid ho
  have HPQ := Lib.hid hpq
  have HR := Lib.hid hR
  have HV := Lib.hid hv
  have HXD := Lib.hid ((hx.grow hI.grow).grow (Grow.refl X).drew)
  have HOD := Lib.hid (hi.grow (Grow.refl X).drew)
  have HID := Lib.hid (hI.step (Grow.refl X).drew)
  have hn8 : n ≤ 8 := by have := hv.rows; omega
  have hpl : p.length ≤ n := by omega
  have HPN := Lib.hid (show ∀ r ∈ p, r < n from fun r hr => List.mem_range.1 (hpq.mem_iff.1 (List.mem_append.2 (.inl hr))))
  have hol : (openH hit G n).length ≤ 10 := Nat.le_trans (met_len _ _ _) (by rw [← hG]; exact hv.goals)
  have hpart : partH hit (openH hit G n) p ≤ 10 * 8 := Nat.le_trans (partH_le _ _ _) (Nat.mul_le_mul hol (by omega))
  have hleft : leftH hit (openH hit G n) p ≤ 10 := Nat.le_trans (unmet_le _ _ _ _) hol
  have hle := left_eq (hit := hit) (G := G) (n := n) HPN.out
  have hle2 : leftH hit (openH hit G n) p + (metH hit G p).length = (openH hit G n).length := hle
  obtain ⟨sum, hsum⟩ : ∃ z, partH hit (openH hit G n) p = z := ⟨_, rfl⟩
  obtain ⟨lft, hlft⟩ : ∃ z, leftH hit (openH hit G n) p = z := ⟨_, rfl⟩
  obtain ⟨many, hmany⟩ : ∃ z, (openH hit G n).length = z := ⟨_, rfl⟩
  obtain ⟨lm, hlm⟩ : ∃ z, (metH hit G p).length = z := ⟨_, rfl⟩
  obtain ⟨lst, hlst⟩ : ∃ z, waitH hit (openH hit G n) best = z := ⟨_, rfl⟩
  have hcut := fun h => best_cut (hit := hit) (G := G) (n := n) (least := lst) (p := p) h
  rw [hsum, hlft] at hcut
  rw [hsum] at hpart ⊢
  rw [hlft] at hleft hle2
  rw [hmany] at hle2
  rw [hlm] at hle2
  have HCUT := Lib.hid hcut
  have HSUM := Lib.hid hsum
  have HLFT := Lib.hid hlft
  have HLM := Lib.hid hlm
  have HLST := Lib.hid hlst
  have hbm := HID.out.bm
  have hbt := HID.out.bt
  rw [hmany] at hbm
  have HBM := Lib.hid hbm
  have HBT := Lib.hid hbt
  obtain ⟨oa, oc, rfl, o1, o2, jk⟩ := hi
  rw [natL_len] at o1 ⊢
  have hmet : ∀ (R' : Ending → World → Prop), (∀ w' v, Grow X.drew w' → (∃ a c, v = .slice a lm c) → R' (.returned v) w') → Calls Tryz.prog 29 #[.slice a n c, .slice oa p.length oc] X.drew R' := by
    intro R' hR'
    refine met_any T p _ _ _ HXD.out (by have := HOD.out; rw [natL_len] at this; exact this) HV.out (fun r hr => by rw [hN]; exact HPN.out r hr) R' ?_
    intro w' v hg ho
    obtain ⟨va, vc, rfl, _⟩ := ho.slc encI_len
    exact hR' _ _ hg ⟨va, vc, by rw [natL_len, hH, hG, HLM.out]⟩
  have HMET := Lib.hid hmet
  clear ih hR hI ho hpq jk hcut hsum hlft hlm hlst hbm hbt hmet hle hol hmany
  go_enter Tryz.func40, Tryz.ntmps40
  go_wp2_with fail
  refine wp_region_held_drew (S := (fun Y : World => Y.heap[bM]? = some (.cells #[.int .i64 (many : Nat)] 3 (0, 0)) ∧ Y.heap[bT]? = some (.cells #[.slice a n c] 22 (0, 0)))) (by kernel_rfl) ⟨HBM.out, HBT.out⟩ (fun hH => ?_)
  refine wpAnyH_take (i := 0) (v := .int .i64 (many : Nat)) rfl (by kernel_rfl) (by kernel_rfl) (by kernel_rfl) (fun _ _ _ h => h) (Or.inl ⟨by rfl, ?_⟩) hH ?_
  · intro w9 hw9
    have c9 := box1 hw9.1
    go_simp
  try simp only [List.getElem_toArray, List.getElem_cons_zero, Act.put, List.setIfInBounds_toArray, List.set_cons_zero, List.set_cons_succ]
  refine wpAnyH_take (i := 1) (v := .slice a n c) rfl (by kernel_rfl) (by kernel_rfl) (by kernel_rfl) (fun _ _ _ h => h) (Or.inl ⟨by rfl, ?_⟩) hH ?_
  · intro w9 hw9
    have c9 := box1 hw9.2
    go_simp
  try simp only [List.getElem_toArray, List.getElem_cons_succ, List.getElem_cons_zero, Act.put, List.setIfInBounds_toArray, List.set_cons_zero, List.set_cons_succ]
  refine wpAnyH_take (i := 2) (v := .slice oa p.length oc) rfl (by kernel_rfl) (by kernel_rfl) (by kernel_rfl) (fun _ _ _ h => h) (Or.inl ⟨by rfl, ?_⟩) hH ?_
  · intro w9 hw9
    go_simp
  try simp only [List.getElem_toArray, List.getElem_cons_succ, List.getElem_cons_zero, Act.put, List.setIfInBounds_toArray, List.set_cons_zero, List.set_cons_succ]
  refine wpAnyH_ready (rs := [3]) (by kernel_rfl) (by simp) ?_
  refine AllReadyH.cons rfl (fun K hK => ?_) (AllReadyH.nil)
  go_simp
  refine HMET.out _ ?_
  rintro w1 v1 hg1 ⟨va, vc, rfl⟩
  go_wp2_with fail
  refine hK.out _ _ ⟨hg1.blk hH.1, hg1.blk hH.2⟩ (fun hH2 => ?_)
  clear hK K hH
  have hH := hH2
  clear hH2
  try simp only [List.getElem_toArray, List.getElem_cons_succ, List.getElem_cons_zero, Act.put, List.setIfInBounds_toArray, List.set_cons_zero, List.set_cons_succ]
  have HI1 := Lib.hid (HID.out.step hg1)
  have HK1 := Lib.hid (KeepB.grow (bL := bL) (bB := bB) ((Grow.refl X).drew.trans hg1))
  have HO1 := Lib.hid (HOD.out.grow hg1)
  clear hg1
  refine wpAnyH_take (i := 4) (v := .int .i64 (lm : Nat)) rfl (by kernel_rfl) (by kernel_rfl) (by kernel_rfl) (fun _ _ _ h => h) (Or.inl ⟨by rfl, ?_⟩) hH ?_
  · intro w9 hw9
    go_simp
  try simp only [List.getElem_toArray, List.getElem_cons_succ, List.getElem_cons_zero, Act.put, List.setIfInBounds_toArray, List.set_cons_zero, List.set_cons_succ]
  refine wpAnyH_take (i := 5) (v := .int .i64 (lft : Nat)) rfl (by kernel_rfl) (by kernel_rfl) (by kernel_rfl) (fun _ _ _ h => h) (Or.inl ⟨by rfl, ?_⟩) hH ?_
  · intro w9 hw9
    have q9 : IntKind.i64.wrap ((many : Int) - (lm : Int)) = (lft : Int) := by rw [show (many : Int) - (lm : Int) = (lft : Int) by omega]; exact IntWalk.i64_in _ (by omega)
    go_simp
  try simp only [List.getElem_toArray, List.getElem_cons_succ, List.getElem_cons_zero, Act.put, List.setIfInBounds_toArray, List.set_cons_zero, List.set_cons_succ]
  refine wpAnyH_take (i := 6) (v := .int .i64 (lft : Nat)) rfl (by kernel_rfl) (by kernel_rfl) (by kernel_rfl) (fun _ _ _ h => h) (Or.inl ⟨by rfl, ?_⟩) hH ?_
  · intro w9 hw9
    go_simp
  try simp only [List.getElem_toArray, List.getElem_cons_succ, List.getElem_cons_zero, Act.put, List.setIfInBounds_toArray, List.set_cons_zero, List.set_cons_succ]
  refine wpAnyH_done (by kernel_rfl) ?_ _
  clear hH
  have hbl := HI1.out.bl
  rw [HLST.out] at hbl
  have cL := box1 hbl
  have cT := box1 HI1.out.bt
  have q1 : IntKind.i64.wrap ((sum : Int) + (lft : Int)) = (sum : Int) + (lft : Int) := IntWalk.i64_in _ (by omega)
  have HBL := Lib.hid hbl
  clear hbl
  by_cases hA : lst ≤ sum + lft
  · have HF := Lib.hid (HR.out w1 best HI1.out HK1.out (Nat.le_refl _) (by rw [HLST.out]; exact HCUT.out hA))
    have t1 : (lst : Int) ≤ (sum : Int) + (lft : Int) := by omega
    by_cases hB : 0 < lft
    · have t2 : (0 : Int) < (lft : Int) := by omega
      go_wp2_with fail
      first | exact HF.out | exact bodyPost_ret (by simp [results, Tryz.results40, go_sem]) rfl HF.out | exact bodyPost_end (by simp [results, Tryz.results40, go_sem]) rfl HF.out
    · have t2 : ¬ (0 : Int) < (lft : Int) := by omega
      have t3 : (lst : Int) ≤ (sum : Int) := by omega
      go_wp2_with fail
      first | exact HF.out | exact bodyPost_ret (by simp [results, Tryz.results40, go_sem]) rfl HF.out | exact bodyPost_end (by simp [results, Tryz.results40, go_sem]) rfl HF.out
  · have t1 : ¬ (lst : Int) ≤ (sum : Int) + (lft : Int) := by omega
    by_cases hF : p.length = n
    · have t2 : ((p.length : Int) == (n : Int)) = true := by rw [beq_iff_eq]; omega
      have hq0 : q = [] := List.length_eq_zero_iff.1 (by have := HPQ.out.length_eq; rw [List.length_append, List.length_range] at this; omega)
      have hpp : p.Perm (List.range n) := by have := HPQ.out; rw [hq0, List.append_nil] at this; exact this
      have ho1 : IntsAt w1 (.slice oa p.length oc) (natL p) := by have := HO1.out; rw [natL_len] at this; exact this
      have hoB : OffB bL bB (.slice oa p.length oc) := by have := HOB.out; rw [natL_len] at this; exact this
      have hfull := HI1.out.full N ho1 hoB ⟨oa, oc, rfl⟩ hpp
      obtain ⟨bv, hb1, _⟩ := HI1.out.bb
      have f1 := box1 hb1
      have f2 : w1.frozen? ⟨bB, 0, none⟩ = false := by simp [World.frozen?, hb1]
      have hbl2 : (w1.setCell ⟨bB, 0, none⟩ (.slice oa p.length oc)).heap[bL]? = some (.cells #[.int .i64 (lst : Nat)] 3 (0, 0)) := by rw [Below.heap_setCell _ _ _ _ N.lb]; exact HBL.out
      have f3 := box1 hbl2
      have f4 : (w1.setCell ⟨bB, 0, none⟩ (.slice oa p.length oc)).frozen? ⟨bL, 0, none⟩ = false := by simp [World.frozen?, hbl2]
      have f5 : w1.frozen? ⟨bL, 0, none⟩ = false := by simp [World.frozen?, HBL.out]
      rw [HSUM.out] at hfull
      have hfb : waitH hit (openH hit G n) p = sum := by rw [best_full hpp, HSUM.out]
      have HF := Lib.hid (HR.out _ p hfull (HK1.out.trans ((KeepB.set2 w1 _).trans (KeepB.set1 _ _))) (by rw [hfb, HLST.out]; omega) (fun o ho hpo => by rw [full_one hF ho hpo]; exact Nat.le_refl _))
      clear hq0 hpp ho1 hoB hfull hb1 hbl2 hfb hF hk hpl
      go_wp2_with fail
      first | exact HF.out | exact bodyPost_ret (by simp [results, Tryz.results40, go_sem]) rfl HF.out | exact bodyPost_end (by simp [results, Tryz.results40, go_sem]) rfl HF.out
    · have t2 : ((p.length : Int) == (n : Int)) = false := by rw [beq_eq_false_iff_ne]; omega
      have HIO := Lib.hid (show IntsAt w1 (.slice oa p.length oc) (natL p) from by have := HO1.out; rw [natL_len] at this; exact this)
      have HOB2 := Lib.hid (show OffB bL bB (.slice oa p.length oc) from by have := HOB.out; rw [natL_len] at this; exact this)
      go_wp2_with fail
      go_loopw [10, 40] (fun _ i wr => ∃ (r : Nat) (be : List Nat), r ≤ n ∧ i = .int .i64 r ∧ BsI w hit G n (.slice a n c) bM bT bL bB bG be wr ∧ KeepB bL bB w1 wr ∧ waitH hit (openH hit G n) be ≤ lst ∧ ∀ r', r' < r → r' ∉ p → ∀ o : List Nat, o.Perm (List.range n) → (p ++ [r']) <+: o → waitH hit (openH hit G n) be ≤ waitH hit (openH hit G n) o) (fun _ i _ => n - (intOf i).toNat)
      case atStart => exact ⟨0, best, Nat.zero_le _, rfl, HI1.out, KeepB.refl _ _ _, by rw [HLST.out]; exact Nat.le_refl _, fun r' h => by omega⟩
      case round =>
        obtain ⟨r, be, hr, rfl, hI2, hk2, hw2, hall⟩ := hrel
        have HI2 := Lib.hid hI2
        have HK2 := Lib.hid hk2
        have HW2 := Lib.hid hw2
        have HALL := Lib.hid hall
        have cT2 := box1 hI2.bt
        clear hI2 hk2 hw2 hall
        by_cases hlt : r < n
        · have hlt2 : (r : Int) < (n : Int) := by omega
          have HOW := Lib.hid (ints_keepB HIO.out HOB2.out HK2.out)
          obtain ⟨cq, hcq⟩ : ∃ z, (natL p).contains (r : Int) = z := ⟨_, rfl⟩
          have HCQ := Lib.hid hcq
          clear hcq
          go_wp2_with fail
          refine containsI_any (natL p) (r : Int) _ _ HOW.out _ ?_
          rw [HCQ.out]
          cases cq with
          | true =>
            have hmem : r ∈ p := by
              have := HCQ.out
              rw [List.contains_iff_mem] at this
              obtain ⟨m, hm, e⟩ := natL_mem.1 this
              have : r = m := by omega
              rw [this]; exact hm
            have HALL2 := Lib.hid (show ∀ r', r' < r + 1 → r' ∉ p → ∀ o : List Nat, o.Perm (List.range n) → (p ++ [r']) <+: o → waitH hit (openH hit G n) be ≤ waitH hit (openH hit G n) o from fun r' h1 h2 => by
              by_cases h3 : r' = r
              · rw [h3] at h2; exact absurd hmem h2
              · exact HALL.out r' (by omega) h2)
            clear hmem
            go_wp2_with fail
            go_roundw
            case rel => exact ⟨r + 1, be, by omega, by go_num, HI2.out, HK2.out, HW2.out, HALL2.out⟩
            case measure => simp [intOf]; omega
          | false =>
            have hnm : r ∉ p := fun h => by
              have := HCQ.out
              rw [show (natL p).contains (r : Int) = true from List.contains_iff_mem.2 (natL_mem.2 ⟨r, h, rfl⟩)] at this
              cases this
            have HNM := Lib.hid hnm
            clear hnm
            go_wp2_with fail
            obtain ⟨k2, hk2⟩ : ∃ k2, k = k2 + 1 := ⟨k - 1, by omega⟩
            have hk3 : k2 + (p ++ [r]).length = n := by rw [List.length_append, List.length_singleton]; omega
            obtain ⟨pn, hpn⟩ : ∃ z, partH hit (openH hit G n) (p ++ [r]) = z := ⟨_, rfl⟩
            have hpn2 : pn = sum + lft := by rw [← hpn, partH_snoc, HSUM.out, HLFT.out]
            have HPNE := Lib.hid hpn
            have HPN2 := Lib.hid hpn2
            clear hpn2
            have HNQ := Lib.hid (pre_snoc HPQ.out hlt HNM.out)
            have HID2 := Lib.hid (HI2.out.step (Grow.refl wr).drew)
            have HOWD := Lib.hid (HOW.out.grow (Grow.refl wr).drew)
            have hdz : wr.drew.heap.size = wr.heap.size := rfl
            have hzG := lt_of_block HID2.out.bg
            have hzL := lt_of_block HID2.out.bl
            obtain ⟨bv2, hbv2, _⟩ := HID2.out.bb
            have hzB := lt_of_block hbv2
            have HLS := Lib.hid (show (natL p).length < 10000000000 by rw [natL_len]; omega)
            have HLS2 := Lib.hid (show (natL p).length < 100000000000 by rw [natL_len]; omega)
            clear hpn hbv2 cT2 cL cT hF hk
            refine wp_region_held_drew (S := (fun Y : World => Y.heap[bG]? = some (.cells #[.func (.func 40) #[] #[.pointer (some ⟨bM, 0, none⟩), .pointer (some ⟨bT, 0, none⟩), .pointer (some ⟨bL, 0, none⟩), .pointer (some ⟨bB, 0, none⟩), .pointer (some ⟨bG, 0, none⟩)]] 73 (0, 0)))) (by kernel_rfl) HID2.out.bg (fun hH => ?_)
            refine wpAnyH_take (i := 0) (v := .func (.func 40) #[] #[.pointer (some ⟨bM, 0, none⟩), .pointer (some ⟨bT, 0, none⟩), .pointer (some ⟨bL, 0, none⟩), .pointer (some ⟨bB, 0, none⟩), .pointer (some ⟨bG, 0, none⟩)]) rfl (by kernel_rfl) (by kernel_rfl) (by kernel_rfl) (fun _ _ _ h => h) (Or.inl ⟨by rfl, ?_⟩) hH ?_
            · intro w9 hw9
              have c9 := box1 hw9
              go_simp
            try simp only [List.getElem_toArray, List.getElem_cons_zero, Act.put, List.setIfInBounds_toArray, List.set_cons_zero, List.set_cons_succ]
            refine wpAnyH_take (i := 1) (v := .slice oa p.length oc) rfl (by kernel_rfl) (by kernel_rfl) (by kernel_rfl) (fun _ _ _ h => h) (Or.inl ⟨by rfl, ?_⟩) hH ?_
            · intro w9 hw9
              go_simp
            try simp only [List.getElem_toArray, List.getElem_cons_succ, List.getElem_cons_zero, Act.put, List.setIfInBounds_toArray, List.set_cons_zero, List.set_cons_succ]
            refine wpAnyH_take (i := 3) (v := .int .i64 (r : Int)) rfl (by kernel_rfl) (by kernel_rfl) (by kernel_rfl) (fun _ _ _ h => h) (Or.inl ⟨by rfl, ?_⟩) hH ?_
            · intro w9 hw9
              go_simp
            try simp only [List.getElem_toArray, List.getElem_cons_succ, List.getElem_cons_zero, Act.put, List.setIfInBounds_toArray, List.set_cons_zero, List.set_cons_succ]
            refine wpAnyH_take (i := 6) (v := .int .i64 (sum : Nat)) rfl (by kernel_rfl) (by kernel_rfl) (by kernel_rfl) (fun _ _ _ h => h) (Or.inl ⟨by rfl, ?_⟩) hH ?_
            · intro w9 hw9
              go_simp
            try simp only [List.getElem_toArray, List.getElem_cons_succ, List.getElem_cons_zero, Act.put, List.setIfInBounds_toArray, List.set_cons_zero, List.set_cons_succ]
            refine wpAnyH_take (i := 7) (v := .int .i64 (lft : Nat)) rfl (by kernel_rfl) (by kernel_rfl) (by kernel_rfl) (fun _ _ _ h => h) (Or.inl ⟨by rfl, ?_⟩) hH ?_
            · intro w9 hw9
              go_simp
            try simp only [List.getElem_toArray, List.getElem_cons_succ, List.getElem_cons_zero, Act.put, List.setIfInBounds_toArray, List.set_cons_zero, List.set_cons_succ]
            refine wpAnyH_take (i := 8) (v := .int .i64 (pn : Nat)) rfl (by kernel_rfl) (by kernel_rfl) (by kernel_rfl) (fun _ _ _ h => h) (Or.inl ⟨by rfl, ?_⟩) hH ?_
            · intro w9 hw9
              go_simp
              have h9 := HPN2.out
              omega
            try simp only [List.getElem_toArray, List.getElem_cons_succ, List.getElem_cons_zero, Act.put, List.setIfInBounds_toArray, List.set_cons_zero, List.set_cons_succ]
            refine wpAnyH_ready (rs := [2, 4]) (by kernel_rfl) (by simp) ?_
            refine AllReadyH.cons rfl (fun K hK => ?_) (AllReadyH.cons rfl (fun K hK => ?_) (AllReadyH.nil))
            · skip
              go_simp
              refine cloneR_any (natL p) _ _ (HOWD.out.grow (Grow.refl _)) HLS.out _ ?_
              intro w8 v8 hg8 hv8
              go_wp2_with fail
              refine hK.out _ _ (hg8.blk hH) (fun hH2 => ?_)
              clear hK K hH
              have hH := hH2
              clear hH2
              try simp only [List.getElem_toArray, List.getElem_cons_succ, List.getElem_cons_zero, Act.put, List.setIfInBounds_toArray, List.set_cons_zero, List.set_cons_succ]
              refine wpAnyH_ready (rs := [4]) (by kernel_rfl) (by simp) ?_
              refine AllReadyH.cons rfl (fun K hK => ?_) (AllReadyH.nil)
              go_simp
              refine hK.out _ _ (((Grow.refl _).alloc _).blk hH) (fun hH2 => ?_)
              clear hK K hH
              have hH := hH2
              clear hH2
              try simp only [List.getElem_toArray, List.getElem_cons_succ, List.getElem_cons_zero, Act.put, List.setIfInBounds_toArray, List.set_cons_zero, List.set_cons_succ]
              have hz8 := hg8.sz
              refine wpAnyH_ready (rs := [5]) (by kernel_rfl) (by simp) ?_
              refine AllReadyH.cons rfl (fun K hK => ?_) (AllReadyH.nil)
              refine step_appAt rfl (.tmp 49) (.tmp 51) 25 rfl wr.drew.heap.size 3 Tryz.underlying25 info_int rfl (by decide) (by decide) encI encI_len encI_one v8 (natL p) (by simp [Act.eval]) (((Grow.refl w8).alloc (.cells #[.int .i64 (r : Int)] 3)).owns hv8) _ (r : Int) 1 (by simp [Act.eval] <;> rfl) (newsG w8 _ rfl (encI (r : Int)) 3) HLS2.out (by simp; omega) ?_
              intro v9 w9 hown9 hgr9 hat9
              have hg9 : Grow wr.drew w9 := grown_below (((Grow.refl w8).alloc (.cells #[.int .i64 (r : Int)] 3)).owns hv8) hgr9 (Nat.le_refl _) (by simp; omega) (hg8.alloc (.cells #[.int .i64 (r : Int)] 3))
              have hH9 := grown_keep (((Grow.refl w8).alloc (.cells #[.int .i64 (r : Int)] 3)).owns hv8) hgr9 (show bG < wr.drew.heap.size from (by omega)) hH
              have hown9 := hown9
              rw [← natL_snoc] at hown9
              have HX9 := Lib.hid (slc_of_owns encI_len hown9)
              have HO9 := Lib.hid (OffB.of_new (bL := bL) (bB := bB) (NewS.of_own (⟨_, hown9⟩ : OwnI _ w9 v9 (natL (p ++ [r])))) ((by omega)) ((by omega)))
              have HG9 := Lib.hid hg9
              refine hK.out _ _ hH9 (fun hH2 => ?_)
              clear hK K hH
              have hH := hH2
              clear hH2
              try simp only [List.getElem_toArray, List.getElem_cons_succ, List.getElem_cons_zero, Act.put, List.setIfInBounds_toArray, List.set_cons_zero, List.set_cons_succ]
              clear hown9 hgr9 hat9 hg9 hH9 hv8 hg8
              refine wpAnyH_ready (rs := [9]) (by kernel_rfl) (by simp) ?_
              refine AllReadyH.cons rfl (fun K hK => ?_) (AllReadyH.nil)
              obtain ⟨q2, hq2⟩ := HNQ.out
              go_simp
              rw [← HPNE.out]
              refine HIH.out k2 (by omega) (p ++ [r]) q2 be v9 w9 hk3 (HID2.out.step HG9.out) HX9.out HO9.out hq2 _ ?_
              intro X2 be2 hi3 hk4 hw3 hall3
              go_wp2_with fail
              have HI3 := Lib.hid hi3
              have HK3 := Lib.hid ((HK2.out.trans (KeepB.grow ((Grow.refl wr).drew.trans HG9.out))).trans hk4)
              have HW3 := Lib.hid (Nat.le_trans hw3 HW2.out)
              have HALL3 := Lib.hid (show ∀ ra, ra < r + 1 → ra ∉ p → ∀ o : List Nat, o.Perm (List.range n) → (p ++ [ra]) <+: o → waitH hit (openH hit G n) be2 ≤ waitH hit (openH hit G n) o from fun ra h1 h2 o h3 h4 => by
                by_cases h5 : ra = r
                · rw [h5] at h4; exact hall3 o h3 h4
                · exact Nat.le_trans hw3 (HALL.out ra (by omega) h2 o h3 h4))
              clear hw3 hall3 hk4 hq2
              refine hK.out _ _ HI3.out.bg (fun hH2 => ?_)
              clear hK K hH
              have hH := hH2
              clear hH2
              try simp only [List.getElem_toArray, List.getElem_cons_succ, List.getElem_cons_zero, Act.put, List.setIfInBounds_toArray, List.set_cons_zero, List.set_cons_succ]
              clear hi3
              refine wpAnyH_done (by kernel_rfl) ?_ _
              clear hH
              go_wp2_with fail
              go_roundw
              case rel => exact ⟨r + 1, be2, by omega, by go_num, HI3.out, HK3.out, HW3.out, HALL3.out⟩
              case measure => simp [intOf]; omega
            · skip
              go_simp
              refine hK.out _ _ (((Grow.refl _).alloc _).blk hH) (fun hH2 => ?_)
              clear hK K hH
              have hH := hH2
              clear hH2
              try simp only [List.getElem_toArray, List.getElem_cons_succ, List.getElem_cons_zero, Act.put, List.setIfInBounds_toArray, List.set_cons_zero, List.set_cons_succ]
              refine wpAnyH_ready (rs := [2]) (by kernel_rfl) (by simp) ?_
              refine AllReadyH.cons rfl (fun K hK => ?_) (AllReadyH.nil)
              go_simp
              refine cloneR_any (natL p) _ _ (HOWD.out.grow ((Grow.refl _).alloc _)) HLS.out _ ?_
              intro w8 v8 hg8 hv8
              go_wp2_with fail
              refine hK.out _ _ (hg8.blk hH) (fun hH2 => ?_)
              clear hK K hH
              have hH := hH2
              clear hH2
              try simp only [List.getElem_toArray, List.getElem_cons_succ, List.getElem_cons_zero, Act.put, List.setIfInBounds_toArray, List.set_cons_zero, List.set_cons_succ]
              have hz8 := hg8.sz
              rw [World.size_alloc] at hz8
              refine wpAnyH_ready (rs := [5]) (by kernel_rfl) (by simp) ?_
              refine AllReadyH.cons rfl (fun K hK => ?_) (AllReadyH.nil)
              refine step_appAt rfl (.tmp 49) (.tmp 51) 25 rfl (wr.drew.alloc (.cells #[.int .i64 (r : Int)] 3)).heap.size 3 Tryz.underlying25 info_int rfl (by decide) (by decide) encI encI_len encI_one v8 (natL p) (by simp [Act.eval]) (hv8) _ (r : Int) 1 (by simp [Act.eval] <;> rfl) (fun q u hq => hg8.cell (newsG wr.drew _ rfl (encI (r : Int)) 3 q u hq)) HLS2.out (hg8.sz) ?_
              intro v9 w9 hown9 hgr9 hat9
              have hg9 : Grow wr.drew w9 := grown_below (hv8) hgr9 (by simp) (by omega) ((((Grow.refl wr.drew).alloc (.cells #[.int .i64 (r : Int)] 3)).trans hg8))
              have hH9 := grown_keep (hv8) hgr9 (show bG < (wr.drew.alloc (.cells #[.int .i64 (r : Int)] 3)).heap.size from (by simp; omega)) hH
              have hown9 := hown9
              rw [← natL_snoc] at hown9
              have HX9 := Lib.hid (slc_of_owns encI_len hown9)
              have HO9 := Lib.hid (OffB.of_new (bL := bL) (bB := bB) (NewS.of_own (⟨_, hown9⟩ : OwnI _ w9 v9 (natL (p ++ [r])))) ((by simp; omega)) ((by simp; omega)))
              have HG9 := Lib.hid hg9
              refine hK.out _ _ hH9 (fun hH2 => ?_)
              clear hK K hH
              have hH := hH2
              clear hH2
              try simp only [List.getElem_toArray, List.getElem_cons_succ, List.getElem_cons_zero, Act.put, List.setIfInBounds_toArray, List.set_cons_zero, List.set_cons_succ]
              clear hown9 hgr9 hat9 hg9 hH9 hv8 hg8
              refine wpAnyH_ready (rs := [9]) (by kernel_rfl) (by simp) ?_
              refine AllReadyH.cons rfl (fun K hK => ?_) (AllReadyH.nil)
              obtain ⟨q2, hq2⟩ := HNQ.out
              go_simp
              rw [← HPNE.out]
              refine HIH.out k2 (by omega) (p ++ [r]) q2 be v9 w9 hk3 (HID2.out.step HG9.out) HX9.out HO9.out hq2 _ ?_
              intro X2 be2 hi3 hk4 hw3 hall3
              go_wp2_with fail
              have HI3 := Lib.hid hi3
              have HK3 := Lib.hid ((HK2.out.trans (KeepB.grow ((Grow.refl wr).drew.trans HG9.out))).trans hk4)
              have HW3 := Lib.hid (Nat.le_trans hw3 HW2.out)
              have HALL3 := Lib.hid (show ∀ ra, ra < r + 1 → ra ∉ p → ∀ o : List Nat, o.Perm (List.range n) → (p ++ [ra]) <+: o → waitH hit (openH hit G n) be2 ≤ waitH hit (openH hit G n) o from fun ra h1 h2 o h3 h4 => by
                by_cases h5 : ra = r
                · rw [h5] at h4; exact hall3 o h3 h4
                · exact Nat.le_trans hw3 (HALL.out ra (by omega) h2 o h3 h4))
              clear hw3 hall3 hk4 hq2
              refine hK.out _ _ HI3.out.bg (fun hH2 => ?_)
              clear hK K hH
              have hH := hH2
              clear hH2
              try simp only [List.getElem_toArray, List.getElem_cons_succ, List.getElem_cons_zero, Act.put, List.setIfInBounds_toArray, List.set_cons_zero, List.set_cons_succ]
              clear hi3
              refine wpAnyH_done (by kernel_rfl) ?_ _
              clear hH
              go_wp2_with fail
              go_roundw
              case rel => exact ⟨r + 1, be2, by omega, by go_num, HI3.out, HK3.out, HW3.out, HALL3.out⟩
              case measure => simp [intOf]; omega
        · have hrn : r = n := by omega
          have hlt2 : ¬ (r : Int) < (n : Int) := by omega
          have HF := Lib.hid (HR.out wr be HI2.out (HK1.out.trans HK2.out) (by rw [HLST.out]; exact HW2.out) (fun o ho hpo => by
            obtain ⟨r', h1, h2, h3⟩ := pre_next (show p.length < n by omega) ho hpo
            exact HALL.out r' (by omega) h2 o ho h3))
          clear hF hk
          go_wp2_with fail
          first | exact HF.out | exact bodyPost_ret (by simp [results, Tryz.results40, go_sem]) rfl HF.out | exact bodyPost_end (by simp [results, Tryz.results40, go_sem]) rfl HF.out
end Go.Proofs.YtfbfkkaepgcggaaGreat
