/-
The walks of package blame: which sets hit, and what is least.
What the functions on families answer: the blocker, what is least, the first one of the smallest sets; plain.
The walks of the document's answer to layer 3: families, sets as numbers, and what hits them.
The walks of the document's answer to layer 3: Hits, and sets in ascending order.
The walks of the document's answer to layer 3: sets in ascending order.
The walks of the document's answer to layer 3: the smallest sets that hit.
What the statements of chapter 03 rest on: the blocker of the blocker, what hits, slices that are families; plain laws.
The walks of the document's answer to layer 3: Blocker, CheckBlocker, Common, Together.
The walks of the document's answer to layer 3: CheckBlocker, Least, First, Smallest, Without.
The walks of the document's answer to layer 3: Least.
The walks of the document's answer to layer 3: First and Smallest.
-/
import Derived.Test.YtmlbgfnddgbpbaaGreatD06
import Derived.Test.YtmlbgfnddgbpbaaGreatD13
import Derived.Test.YtmlbgfnddgbpbaaGreatD05
import Derived.Test.YtmlbgfnddgbpbaaGreatD02
import Derived.BigQuiet
import Derived.Deep.QuietTactic
import Derived.Test.YtmlbgfnddgbpbaaGreatD00
import Derived.Test.YtmlbgfnddgbpbaaGreatD20
namespace Go.Proofs.YtmlbgfnddgbpbaaGreat
open Go.RowKit
open Mk Bm

/-- Sets as Go's numbers. -/
def nI (F : List Nat) : List Int := F.map fun (x : Nat) => (x : Int)
theorem nI_len (F : List Nat) : (nI F).length = F.length := List.length_map ..
theorem mskI_eq (f : List (List Int)) : mskI f = nI (f.map mask) := by unfold mskI nI; rw [List.map_map]; rfl
theorem nI_at {F : List Nat} {k x : Nat} (h : F[k]? = some x) : (nI F)[k]? = some (x : Int) := by unfold nI; rw [List.getElem?_map, h]; rfl
theorem and_is {x m : Nat} (hx : x < 256) (hm : m < 256) : (bits .and .i64 (x : Int) (m : Int) == 0) = decide (x &&& m = 0) := by
  rw [Mk.bits_and x m (by omega) (by omega), Bool.eq_iff_iff, beq_iff_eq, decide_eq_true_eq]; omega
def hitI (m : Int) (x : Int) : Bool := bits .and .i64 x m == 0
theorem hitI_any {F : List Nat} (hF : ∀ x ∈ F, x < 256) {m : Nat} (hm : m < 256) : (nI F).any (hitI m) = !hit F m := by
  unfold nI hit hitI
  rw [List.any_map, List.not_all_eq_any_not]
  rw [Bool.eq_iff_iff, List.any_eq_true, List.any_eq_true]
  constructor
  · rintro ⟨x, hx, h⟩
    refine ⟨x, hx, ?_⟩
    have h2 : (bits .and .i64 (x : Int) (m : Int) == 0) = true := h
    rw [and_is (hF x hx) hm] at h2
    rw [h2]; rfl
  · rintro ⟨x, hx, h⟩
    refine ⟨x, hx, ?_⟩
    show (bits .and .i64 (x : Int) (m : Int) == 0) = true
    rw [and_is (hF x hx) hm]
    simpa using h
theorem hits1_any (x m : Int) (b : Nat) (w : World) (hb : w.heap[b]? = some (.cells #[.int .i64 m] 3 (0, 0))) (R : Ending → World → Prop) (hR : R (.returned (.bool (hitI m x))) w) :
    Calls Tryz.prog 120 #[.int .i64 x, .pointer (some ⟨b, 0, none⟩)] w R := by
  have e0 := box1 hb
  have hz := lt_of_block hb
  have HR := Lib.hid hR
  clear hR hb
  go_enter Tryz.func120, Tryz.ntmps120
  go_wp2_with fail
  exact HR.out
set_option maxHeartbeats 2000000 in
theorem hits_any (F : List Nat) (hF : ∀ x ∈ F, x < 256) (m : Nat) (hm : m < 256) (v : Value) (w : World) (hv : IntsAt w v (nI F)) (R : Ending → World → Prop) (hR : ∀ w', Grow w w' → R (.returned (.bool (hit F m))) w') :
    Calls Tryz.prog 69 #[v, .int .i64 (m : Int)] w R := by
  have HV := Lib.hid hv
  have HA := Lib.hid (hitI_any hF hm)
  have HR := Lib.hid hR
  obtain ⟨a, c, rfl, h1, h2, _⟩ := hv
  have heg : Enters Tryz.prog 120 := enters_of Tryz.func120 (by kernel_rfl) rfl
  have HEG := Lib.hid heg
  clear hR heg hF hm
  go_enter Tryz.func69, Tryz.ntmps69
  go_wp2_with fail
  have hg := (Grow.refl w).alloc (.cells #[.int .i64 (m : Int)] 3)
  have hb := heap_alloc_new w (.cells #[.int .i64 (m : Int)] 3)
  generalize w.alloc (.cells #[.int .i64 (m : Int)] 3) = W at hg hb ⊢
  have hp : PredI 120 (#[] ++ #[.pointer (some ⟨w.heap.size, 0, none⟩)]) W (hitI m) := fun x W' hg' R hR => hits1_any x m _ W' (hg'.blk hb) R (hR W' (Grow.refl _))
  have HP := Lib.hid hp
  have HG := Lib.hid hg
  clear hp hg hb
  refine containsFuncI_any 120 _ HEG.out (hitI m) (nI F) _ _ (HV.out.grow HG.out) HP.out _ ?_
  intro w1 hg1
  rw [HA.out]
  have HF := Lib.hid (HR.out w1 (HG.out.trans hg1))
  clear hg1
  generalize hit F m = q at HF ⊢
  cases q <;> (go_wp2_with fail; exact HF.out)

/-- The answer of Hits. -/
def hitsE (f : List (List Int)) (s : List Int) : Int := if valF f = 0 then errB (setB s) else valF f
def hitsB (f : List (List Int)) (s : List Int) : Bool := decide (hitsE f s = 0) && hit (f.map mask) (mask s)
set_option maxHeartbeats 2000000 in
theorem Hits_any (f : List (List Int)) (s : List Int) (v u : Value) (w : World) (hf : FamAt w v f) (hs : IntsAt w u s) (R : Ending → World → Prop) (hR : ∀ w', Grow w w' → R (.returned (.tuple #[.bool (hitsB f s), .int .i64 (hitsE f s)])) w') :
    Calls Tryz.prog 25 #[v, u] w R := by
  have HFM := Lib.hid hf
  have HS := Lib.hid hs
  unfold hitsB hitsE at hR
  have HR := Lib.hid hR
  obtain ⟨e, he⟩ : ∃ e, valF f = e := ⟨_, rfl⟩
  rw [he] at HR
  have HE := Lib.hid he
  obtain ⟨a, c, rfl, h1, h2⟩ := hf.out
  obtain ⟨sa, sc, rfl, _⟩ := hs
  clear hR hf
  by_cases h0 : e = 0
  · subst h0
    rw [if_pos rfl] at HR
    have HML := Lib.hid (masks_lt he)
    obtain ⟨hl70, hall⟩ := valF_ok.1 he
    have HALL := Lib.hid hall
    obtain ⟨q, hq⟩ : ∃ q, setB s = q := ⟨_, rfl⟩
    rw [hq] at HR
    have HQ := Lib.hid hq
    clear he hall hq
    cases q with
    | false =>
      have HF := Lib.hid (fun w' h => show R (.returned (.tuple #[.bool false, .int .i64 1])) w' from HR.out w' h)
      go_enter Tryz.func25, Tryz.ntmps25
      go_wp2_with fail
      refine bValidate_any f _ _ HFM.out _ ?_
      intro w1 hg1
      rw [HE.out]
      have HG1 := Lib.hid hg1
      clear hg1
      go_wp2_with fail
      refine bisSet_any s _ _ (HS.out.grow HG1.out) _ ?_
      intro w2 hg2
      rw [HQ.out]
      have HF2 := Lib.hid (HF.out w2 (HG1.out.trans hg2))
      clear hg2
      go_wp2_with fail
      exact HF2.out
    | true =>
      have HSM := Lib.hid (set_mask HQ.out).1
      have HOK := Lib.hid (setB_iff.1 HQ.out).1
      have HF := Lib.hid (fun w' h => show R (.returned (.tuple #[.bool (hit (f.map mask) (mask s)), .int .i64 0])) w' from HR.out w' h)
      go_enter Tryz.func25, Tryz.ntmps25
      go_wp2_with fail
      refine bValidate_any f _ _ HFM.out _ ?_
      intro w1 hg1
      rw [HE.out]
      have HG1 := Lib.hid hg1
      clear hg1
      go_wp2_with fail
      refine bisSet_any s _ _ (HS.out.grow HG1.out) _ ?_
      intro w2 hg2
      rw [HQ.out]
      have HG2 := Lib.hid (HG1.out.trans hg2)
      clear hg2
      go_wp2_with fail
      refine all_any f _ _ (HFM.out.grow HG2.out) HALL.out hl70 _ ?_
      intro w3 v3 hg3 hv3
      have hv4 := hv3.slc encI_len
      rw [mskI_eq] at hv4
      have HV4 := Lib.hid hv4
      have HG3 := Lib.hid (HG2.out.trans hg3)
      obtain ⟨a3, c3, rfl, _⟩ := hv4
      clear hg3 hv3
      go_wp2_with fail
      refine bits_any s _ _ (HS.out.grow HG3.out) HOK.out _ ?_
      go_wp2_with fail
      refine hits_any (f.map mask) HML.out (mask s) HSM.out _ _ HV4.out _ ?_
      intro w5 hg5
      have HF2 := Lib.hid (HF.out w5 (HG3.out.trans hg5))
      generalize hit (f.map mask) (mask s) = q at HF2 ⊢
      clear hg5
      go_wp2_with fail
      exact HF2.out
  · rw [if_neg h0] at HR
    have t1 : (e != 0) = true := by simpa using h0
    have hd : decide (e = 0) = false := decide_eq_false h0
    have HF := Lib.hid (fun w' h => show R (.returned (.tuple #[.bool false, .int .i64 e])) w' from by have := HR.out w' h; rw [hd] at this; exact this)
    clear h0 he hd
    go_enter Tryz.func25, Tryz.ntmps25
    go_wp2_with fail
    refine bValidate_any f _ _ HFM.out _ ?_
    intro w1 hg1
    rw [HE.out]
    have HF2 := Lib.hid (HF.out w1 hg1)
    clear hg1
    go_wp2_with fail
    exact HF2.out

/-! ### What is least -/
def lsStep (F : List Nat) (out : List Nat) (x : Nat) : List Nat := if out.contains x || F.any (fun y => !decide (y = x) && decide (y &&& x = y)) then out else out ++ [x]
def lsN (F : List Nat) (k : Nat) : List Nat := (F.take k).foldl (lsStep F) []
def lsP (F : List Nat) : List Nat := F.foldl (lsStep F) []
theorem lsN_succ {F : List Nat} {k x : Nat} (h : F[k]? = some x) : lsN F (k + 1) = lsStep F (lsN F k) x := by unfold lsN; rw [List.take_add_one, h, List.foldl_append]; rfl
theorem lsN_all (F : List Nat) : lsN F F.length = lsP F := by unfold lsN lsP; rw [List.take_length]
theorem lsN_is (F : List Nat) : ∀ k, k ≤ F.length → (∀ x, x ∈ lsN F k ↔ x ∈ F.take k ∧ ∀ y ∈ F, prt y x → y = x) ∧ (lsN F k).Nodup ∧ (lsN F k).length ≤ k
  | 0, _ => by
    refine ⟨fun x => ?_, List.Pairwise.nil, Nat.le_refl _⟩
    rw [List.take_zero]; exact ⟨fun h => (by cases h), fun h => (by cases h.1)⟩
  | k + 1, hk => by
    obtain ⟨h1, h2, h3⟩ := lsN_is F k (by omega)
    have hx : F[k]? = some F[k] := List.getElem?_eq_getElem (by omega)
    rw [lsN_succ hx]
    have ht : F.take (k + 1) = F.take k ++ [F[k]] := by rw [List.take_add_one, hx]; rfl
    have hmin : F.any (fun y => !decide (y = F[k]) && decide (y &&& F[k] = y)) = true ↔ ¬ ∀ y ∈ F, prt y F[k] → y = F[k] := by
      rw [List.any_eq_true]
      constructor
      · rintro ⟨y, hy, h⟩ hall
        rw [Bool.and_eq_true, decide_eq_true_eq] at h
        have := hall y hy h.2
        rw [this] at h; simp at h
      · intro hn
        refine Classical.byContradiction fun hc => hn fun y hy hp => ?_
        refine Classical.byContradiction fun hne => hc ⟨y, hy, ?_⟩
        rw [decide_eq_false hne]
        exact decide_eq_true hp
    unfold lsStep
    by_cases hc : (lsN F k).contains F[k] || F.any (fun y => !decide (y = F[k]) && decide (y &&& F[k] = y))
    · rw [if_pos hc]
      refine ⟨fun x => ?_, h2, by omega⟩
      rw [h1, ht, List.mem_append]
      constructor
      · rintro ⟨a, b⟩; exact ⟨.inl a, b⟩
      · rintro ⟨a | a, b⟩
        · exact ⟨a, b⟩
        · simp at a
          subst a
          rw [Bool.or_eq_true] at hc
          rcases hc with hc | hc
          · exact (h1 _).1 (by simpa using hc)
          · exact absurd b (hmin.1 hc)
    · rw [if_neg hc]
      rw [Bool.not_eq_true, Bool.or_eq_false_iff] at hc
      have hnm : F[k] ∉ lsN F k := by
        intro h
        have : (lsN F k).contains F[k] = true := by simpa using h
        rw [this] at hc; cases hc.1
      have hml : ∀ y ∈ F, prt y F[k] → y = F[k] := Classical.byContradiction fun h => by rw [hmin.2 h] at hc; cases hc.2
      refine ⟨fun x => ?_, List.nodup_append.2 ⟨h2, by simp, fun a ha b hb e => by simp at hb; subst hb; subst e; exact hnm ha⟩, by rw [List.length_append]; simp; omega⟩
      rw [List.mem_append, h1, ht, List.mem_append]
      constructor
      · rintro (⟨a, b⟩ | a)
        · exact ⟨.inl a, b⟩
        · simp at a; subst a; exact ⟨.inr (by simp), hml⟩
      · rintro ⟨a | a, b⟩
        · exact .inl ⟨a, b⟩
        · exact .inr a
theorem mem_lsP {F : List Nat} {x : Nat} : x ∈ lsP F ↔ Lst F x := by
  rw [← lsN_all, (lsN_is F F.length (Nat.le_refl _)).1, List.take_length]; rfl
theorem lsP_nodup (F : List Nat) : (lsP F).Nodup := by rw [← lsN_all]; exact (lsN_is F F.length (Nat.le_refl _)).2.1
theorem lsP_len (F : List Nat) : (lsP F).length ≤ F.length := by rw [← lsN_all]; exact (lsN_is F F.length (Nat.le_refl _)).2.2
def lessI (x : Int) (y : Int) : Bool := !(y == x) && (bits .and .i64 y x == y)
theorem lessI_any {F : List Nat} (hF : ∀ x ∈ F, x < 256) {x : Nat} (hx : x < 256) : (nI F).any (lessI x) = F.any fun y => !decide (y = x) && decide (y &&& x = y) := by
  unfold nI lessI
  rw [List.any_map]
  have : ∀ y ∈ F, (!((y : Int) == (x : Int)) && (bits .and .i64 (y : Int) (x : Int) == (y : Int))) = (!decide (y = x) && decide (y &&& x = y)) := by
    intro y hy
    have := hF y hy
    rw [Mk.bits_and y x (by omega) (by omega)]
    congr 1
    · congr 1
      rw [Bool.eq_iff_iff, beq_iff_eq, decide_eq_true_eq]; omega
    · rw [Bool.eq_iff_iff, beq_iff_eq, decide_eq_true_eq]; omega
  rw [Bool.eq_iff_iff, List.any_eq_true, List.any_eq_true]
  constructor
  · rintro ⟨y, hy, h⟩; exact ⟨y, hy, by rw [← this y hy]; exact h⟩
  · rintro ⟨y, hy, h⟩; exact ⟨y, hy, by have h2 := this y hy; rw [← h2] at h; exact h⟩
theorem least1_any (y x : Int) (b : Nat) (w : World) (hb : w.heap[b]? = some (.cells #[.int .i64 x] 3 (0, 0))) (R : Ending → World → Prop) (hR : ∀ w', Grow w w' → R (.returned (.bool (lessI x y))) w') :
    Calls Tryz.prog 119 #[.int .i64 y, .pointer (some ⟨b, 0, none⟩)] w R := by
  have e0 := box1 hb
  have hz := lt_of_block hb
  unfold lessI at hR
  have HR := Lib.hid hR
  clear hR hb
  by_cases h : y = x
  · have t1 : (y == x) = true := beq_iff_eq.2 h
    have t2 : (y != x) = false := by simpa using h
    have HF := Lib.hid (fun w' hg => show R (.returned (.bool false)) w' from by have := HR.out w' hg; rw [t1] at this; exact this)
    clear h t1
    go_enter Tryz.func119, Tryz.ntmps119
    go_wp2_with (go_quiet (fail))
    exact HF.out _ (by first | exact Grow.refl _ | exact (Grow.refl _).drewN _)
  · have t1 : (y == x) = false := beq_eq_false_iff_ne.2 h
    have t2 : (y != x) = true := by simpa using h
    have HF := Lib.hid (fun w' hg => show R (.returned (.bool (bits .and .i64 y x == y))) w' from by have := HR.out w' hg; rw [t1] at this; exact this)
    clear h t1
    go_enter Tryz.func119, Tryz.ntmps119
    go_wp2_with (go_quiet (fail))
    exact HF.out _ (by first | exact Grow.refl _ | exact (Grow.refl _).drewN _)
theorem nI_contains (L : List Nat) (x : Nat) : (nI L).contains (x : Int) = L.contains x := by
  rw [Bool.eq_iff_iff, List.contains_iff_mem, List.contains_iff_mem]
  unfold nI
  rw [List.mem_map]
  constructor
  · rintro ⟨y, hy, e⟩
    have : y = x := by omega
    subst this; exact hy
  · intro h; exact ⟨x, h, rfl⟩
theorem nI_snoc (L : List Nat) (x : Nat) : nI (L ++ [x]) = nI L ++ [(x : Int)] := by unfold nI; rw [List.map_append]; rfl
set_option maxRecDepth 100000 in
set_option maxHeartbeats 4000000 in
theorem least_any (F : List Nat) (hF : ∀ x ∈ F, x < 256) (hl : F.length ≤ 1000) (v : Value) (w : World) (hv : IntsAt w v (nI F)) (R : Ending → World → Prop) (hR : ∀ w' v, Grow w w' → OwnI w.heap.size w' v (nI (lsP F)) → R (.returned v) w') :
    Calls Tryz.prog 67 #[v] w R := by
  have HV := Lib.hid hv
  have HFL := Lib.hid hF
  have HR := Lib.hid hR
  obtain ⟨a, c, rfl, h1, h2, _⟩ := hv
  rw [nI_len] at h1 ⊢
  have heg : Enters Tryz.prog 119 := enters_of Tryz.func119 (by kernel_rfl) rfl
  have HEG := Lib.hid heg
  clear hR heg hF
  go_enter Tryz.func67, Tryz.ntmps67
  go_wp2_with fail
  go_loopw [3, 5, 8] (fun out _ i wr => ∃ k : Nat, k ≤ F.length ∧ i = .int .i64 k ∧ Grow w wr ∧ wr.ownsRow w.heap.size 3 1 out (nI (lsN F k)).length ((nI (lsN F k)).flatMap encI)) (fun _ _ i _ => F.length - (intOf i).toNat)
  case atStart => exact ⟨0, Nat.zero_le _, rfl, Grow.refl _, World.ownsRow_nil _ _ _ _⟩
  case round =>
    obtain ⟨k, hk, rfl, hg, how⟩ := hrel
    have HG := Lib.hid hg
    have HO := Lib.hid how
    have hzj := hg.sz
    clear hg how
    by_cases hlt : k < F.length
    · obtain ⟨x, hx⟩ : ∃ x, F[k]? = some x := ⟨_, List.getElem?_eq_getElem hlt⟩
      have hv := HV.out.grow HG.out
      obtain ⟨b, o, rfl, hb, e0⟩ := ints_at hv (nI_at hx)
      have hlt2 : (k : Int) < (F.length : Int) := by omega
      have HXL := Lib.hid (HFL.out x (List.mem_of_getElem? hx))
      have HSX := Lib.hid (lsN_succ hx)
      have HLB := Lib.hid (show (nI (lsN F k)).length < 100000000000 by have := (lsN_is F k hk).2.2; rw [nI_len]; omega)
      clear hx hv
      go_wp2_with fail
      have hb1 := heap_alloc_new wr (.cells #[.int .i64 (x : Int)] 3)
      have hg1 := (Grow.refl wr).alloc (.cells #[.int .i64 (x : Int)] 3)
      have hz1 : (wr.alloc (.cells #[.int .i64 (x : Int)] 3)).heap.size = wr.heap.size + 1 := by simp
      generalize wr.alloc (.cells #[.int .i64 (x : Int)] 3) = W1 at hb1 hg1 hz1 ⊢
      have hsl := (slc_of_owns encI_len HO.out).grow hg1
      have HSL := Lib.hid hsl
      have HG1 := Lib.hid (HG.out.trans hg1)
      have HO1 := Lib.hid (hg1.owns HO.out)
      have e1 := box1 hb1
      have hzb := lt_of_block hb1
      have HB1 := Lib.hid hb1
      clear hb1 hg1 hsl
      refine containsI_any _ _ _ _ HSL.out _ ?_
      rw [nI_contains]
      cases hc : (lsN F k).contains x with
      | true =>
        have HSE := Lib.hid (show lsN F (k + 1) = lsN F k by rw [HSX.out]; unfold lsStep; rw [hc, Bool.true_or, if_pos rfl])
        clear hc
        go_wp2_with fail
        go_roundw
        case rel => exact ⟨k + 1, by omega, by go_num, HG1.out, by rw [HSE.out]; exact HO1.out⟩
        case measure => simp [intOf]; omega
      | false =>
        have hse : lsN F (k + 1) = if F.any (fun y => !decide (y = x) && decide (y &&& x = y)) then lsN F k else lsN F k ++ [x] := by rw [HSX.out]; unfold lsStep; rw [hc, Bool.false_or]
        have HAN := Lib.hid (lessI_any HFL.out HXL.out)
        generalize F.any (fun y => !decide (y = x) && decide (y &&& x = y)) = q at hse HAN
        have HSE := Lib.hid hse
        clear hc hse
        have hp : PredI 119 (#[] ++ #[.pointer (some ⟨wr.heap.size, 0, none⟩)]) W1 (lessI (x : Int)) := fun y W' hg' R hR => least1_any y x _ W' (hg'.blk HB1.out) R hR
        have HP := Lib.hid hp
        have HV1 := Lib.hid (HV.out.grow HG1.out)
        clear hp
        go_wp2_with fail
        have hq := HV1.out
        rw [nI_len] at hq
        refine containsFuncI_any 119 _ HEG.out (lessI (x : Int)) (nI F) _ _ hq HP.out _ ?_
        intro w2 hg2
        rw [HAN.out]
        have e2 := hg2.cell e1
        have hz2 := hg2.sz
        have hzb2 : wr.heap.size < w2.heap.size := by omega
        have HG2 := Lib.hid (HG1.out.trans hg2)
        have HO2 := Lib.hid (hg2.owns HO1.out)
        clear hg2 e1 hq
        cases q with
        | true =>
          have HSF := Lib.hid (show lsN F (k + 1) = lsN F k from HSE.out)
          go_wp2_with fail
          go_roundw
          case rel => exact ⟨k + 1, by omega, by go_num, HG2.out, by rw [HSF.out]; exact HO2.out⟩
          case measure => simp [intOf]; omega
        | false =>
          have HSF := Lib.hid (show nI (lsN F (k + 1)) = nI (lsN F k) ++ [(x : Int)] by rw [← nI_snoc]; exact congrArg nI HSE.out)
          go_wp2_with (at_builtin; refine wpList_app _ rfl (.tmp 22) (.tmp 24) 29 rfl w.heap.size 3 Tryz.underlying29 info_int rfl (by decide) (by decide) encI encI_len encI_one _ (nI (lsN F k)) rfl (((Grow.refl _).alloc _).owns HO2.out) _ (x : Int) 1 rfl (newsG _ _ (by simp) (encI (x : Int)) _) HLB.out (by simp; omega) ?_; intro out2 w7 hown7 hgr7)
          have HG10 := Lib.hid (show Grow w w7 from grown_below HO2.out hgr7 (Nat.le_refl _) (by simp; omega) (HG2.out.alloc _))
          have HO7 := Lib.hid hown7
          clear hown7 hgr7
          go_roundw
          case rel => exact ⟨k + 1, by omega, by go_num, HG10.out, by rw [HSF.out]; exact HO7.out⟩
          case measure => simp [intOf]; omega
    · have hkn : k = F.length := by omega
      have HO8 := HO.out
      rw [hkn, lsN_all] at HO8
      have HO9 := Lib.hid HO8
      have HF := Lib.hid (fun v (h : wr.ownsRow w.heap.size 3 1 v (nI (lsP F)).length ((nI (lsP F)).flatMap encI)) => HR.out wr v HG.out ⟨_, h⟩)
      clear hkn HO8
      go_wp2_with fail
      exact HF.out _ HO9.out
end Go.Proofs.YtmlbgfnddgbpbaaGreat

namespace Go.Proofs.YtmlbgfnddgbpbaaGreat
open Go.RowKit
open Mk Bm

/-- The blocker of a family, as lists. -/
def bkM (f : List (List Int)) : List (List Int) := Ls.ord (blk (f.map mask))
def bkO (f : List (List Int)) : List (List Int) := ifOK (valF f) (bkM f)
def leO (f : List (List Int)) : List (List Int) := ifOK (valF f) (Ls.ord (lsP (f.map mask)))
def cbE (f g : List (List Int)) : Int := if valF f = 0 then (if valF g = 0 then (if decide (bkM f = g) then 0 else 7) else valF g) else valF f
def mnF : List (List Int) → List Int
  | [] => []
  | x :: r => r.foldl (fun b y => if y.length < b.length then y else b) x
theorem mn_one {l : List (List Int)} {x : List Int} (h : l[0]? = some x) : mnF (l.take 1) = x := by
  cases l with
  | nil => cases h
  | cons y r => simp at h; subst h; rfl
theorem mn_snoc : ∀ {l : List (List Int)} {y : List Int}, l ≠ [] → mnF (l ++ [y]) = if y.length < (mnF l).length then y else mnF l
  | [], _, h => absurd rfl h
  | x :: r, y, _ => by
    show (r ++ [y]).foldl _ x = _
    rw [List.foldl_append]; rfl
theorem mn_step {l : List (List Int)} {k : Nat} {y : List Int} (hk : 1 ≤ k) (h : l[k]? = some y) : mnF (l.take (k + 1)) = if y.length < (mnF (l.take k)).length then y else mnF (l.take k) := by
  rw [List.take_add_one, h]
  refine mn_snoc fun e => ?_
  have h1 := (List.getElem?_eq_some_iff.1 h).1
  have := congrArg List.length e
  rw [List.length_take, List.length_nil] at this
  omega
theorem mn_is : ∀ (r : List (List Int)) (x : List Int), (mnF (x :: r) ∈ x :: r) ∧ ∀ y ∈ x :: r, (mnF (x :: r)).length ≤ y.length := by
  have key : ∀ (r : List (List Int)) (b : List Int), (r.foldl (fun b y => if y.length < b.length then y else b) b ∈ b :: r) ∧ ∀ y ∈ b :: r, (r.foldl (fun b y => if y.length < b.length then y else b) b).length ≤ y.length := by
    intro r
    induction r with
    | nil => intro b; simp
    | cons z r ih =>
      intro b
      rw [List.foldl_cons]
      by_cases h : z.length < b.length
      · rw [if_pos h]
        obtain ⟨h1, h2⟩ := ih z
        refine ⟨List.mem_cons_of_mem _ h1, fun y hy => ?_⟩
        rcases List.mem_cons.1 hy with rfl | hy
        · have := h2 z (by simp); omega
        · exact h2 y hy
      · rw [if_neg h]
        obtain ⟨h1, h2⟩ := ih b
        refine ⟨?_, fun y hy => ?_⟩
        · rcases List.mem_cons.1 h1 with e | e
          · rw [e]; simp
          · exact List.mem_cons_of_mem _ (List.mem_cons_of_mem _ e)
        · rcases List.mem_cons.1 hy with rfl | hy
          · exact h2 y (by simp)
          · rcases List.mem_cons.1 hy with rfl | hy
            · have := h2 b (by simp); omega
            · exact h2 y (by simp [hy])
  exact fun r x => key r x
theorem mn_all {l : List (List Int)} (h : l ≠ []) : mnF l ∈ l ∧ ∀ y ∈ l, (mnF l).length ≤ y.length := by
  cases l with
  | nil => exact absurd rfl h
  | cons x r => exact mn_is r x
/-- The answers of First. -/
def fsO (f : List (List Int)) : List Int := ifOK (valF f) (mnF (bkM f))
def fsB (f : List (List Int)) : Bool := decide (valF f = 0) && decide (0 < (bkM f).length)
def cmO (f : List (List Int)) : List Int := ifOK (valF f) (lst (cmn (f.map mask)))
def toO (f : List (List Int)) : List Int := ifOK (valF f) (lst (tog (f.map mask)))
end Go.Proofs.YtmlbgfnddgbpbaaGreat

namespace Go.Proofs.YtmlbgfnddgbpbaaGreat
open Go.RowKit
open Mk Bm

theorem r3within_any (n lo hi : Int) (w : World) (R : Ending → World → Prop) (hR : R (.returned (.bool (inB n lo hi))) w) :
    Calls Tryz.prog 86 #[.int .i64 n, .int .i64 lo, .int .i64 hi] w R := by
  by_cases h : lo ≤ n
  · by_cases h2 : n ≤ hi
    · rw [inB_true.2 ⟨h, h2⟩] at hR
      go_enter Tryz.func86, Tryz.ntmps86
      go_wp2
      simpa using hR
    · rw [inB_false.2 (by omega)] at hR
      go_enter Tryz.func86, Tryz.ntmps86
      go_wp2
      simpa using hR
  · rw [inB_false.2 (by omega)] at hR
    go_enter Tryz.func86, Tryz.ntmps86
    go_wp2
    simpa using hR
theorem setB_true {l : List Int} (h1 : ∀ x ∈ l, inB x 0 7 = true) (h2 : ascB l = true) : setB l = true := by
  unfold setB; rw [List.all_eq_true.2 h1, h2]; rfl
set_option maxHeartbeats 4000000 in
theorem r3isSet_any (l : List Int) (v : Value) (w : World) (hs : IntsAt w v l) (R : Ending → World → Prop) (hR : ∀ w', Grow w w' → R (.returned (.bool (setB l))) w') :
    Calls Tryz.prog 71 #[v] w R := by
  have HS := Lib.hid hs
  have HR := Lib.hid hR
  obtain ⟨a, c, rfl, h1, h2, _⟩ := hs
  clear hR
  go_enter Tryz.func71, Tryz.ntmps71
  go_wp2_with fail
  go_loopw [3] (fun i wr => ∃ k : Nat, k ≤ l.length ∧ i = .int .i64 k ∧ Grow w wr ∧ ∀ x ∈ l.take k, inB x 0 7 = true) (fun i _ => l.length - (intOf i).toNat)
  case atStart => exact ⟨0, Nat.zero_le _, rfl, Grow.refl _, by simp⟩
  case round =>
    obtain ⟨k, hk, rfl, hg, hall⟩ := hrel
    have HG := Lib.hid hg
    have HALL := Lib.hid hall
    clear hg hall
    by_cases hlt : k < l.length
    · obtain ⟨x, hx⟩ : ∃ x, l[k]? = some x := ⟨_, List.getElem?_eq_getElem hlt⟩
      obtain ⟨b, o, rfl, hb, e0⟩ := ints_at (HS.out.grow HG.out) hx
      have hlt2 : (k : Int) < (l.length : Int) := by omega
      have HX := Lib.hid hx
      clear hx
      cases hin : inB x 0 7 with
      | true =>
        have HIN := Lib.hid hin
        clear hin
        go_wp2_with fail
        refine r3within_any _ _ _ _ _ ?_
        rw [HIN.out]
        go_wp2_with fail
        go_roundw
        case rel => exact ⟨k + 1, by omega, by go_num, HG.out, rall_take_succ HALL.out HX.out HIN.out⟩
        case measure => simp [intOf]; omega
      | false =>
        have HIN := Lib.hid hin
        have hset := setB_false (List.mem_of_getElem? HX.out) hin
        have HF := Lib.hid (show R (.returned (.bool false)) wr from by have := HR.out _ HG.out; rw [hset] at this; exact this)
        clear hin hset
        go_wp2_with fail
        refine r3within_any _ _ _ _ _ ?_
        rw [HIN.out]
        go_wp2_with fail
        exact HF.out
    · have hkn : k = l.length := by omega
      have hall := HALL.out
      rw [hkn, List.take_length] at hall
      have HA2 := Lib.hid hall
      clear hkn hall
      go_wp2_with fail
      refine rIsSet_any l _ _ (HS.out.grow HG.out) _ ?_
      intro w2 hg2
      have hset : setB l = ascB l := by unfold setB; rw [List.all_eq_true.2 HA2.out, Bool.true_and]
      have HF := Lib.hid (show R (.returned (.bool (ascB l))) w2 from by have := HR.out _ (HG.out.trans hg2); rw [hset] at this; exact this)
      clear hset hg2
      go_wp2_with fail
      exact HF.out
set_option maxHeartbeats 4000000 in
theorem r3Validate_any (f : List (List Int)) (v : Value) (w : World) (hx : FamAt w v f) (R : Ending → World → Prop) (hR : ∀ w', Grow w w' → R (.returned (.int .i64 (valF f))) w') :
    Calls Tryz.prog 28 #[v] w R := by
  have HX := Lib.hid hx
  obtain ⟨a, c, rfl, h1, h2⟩ := hx.out
  have hvd : valF f = if 70 < f.length then 3 else errB (f.all setB) := rfl
  rw [hvd] at hR
  clear hx hvd
  by_cases hl : 70 < f.length
  · rw [if_pos hl] at hR
    have t1 : (f.length : Int) > 70 := by omega
    have HR := Lib.hid (hR w (Grow.refl w))
    clear hR hl
    go_enter Tryz.func28, Tryz.ntmps28
    go_wp2_with fail
    exact HR.out
  · rw [if_neg hl] at hR
    have HR := Lib.hid hR
    have t1 : ¬ (f.length : Int) > 70 := by omega
    clear hR hl
    go_enter Tryz.func28, Tryz.ntmps28
    go_wp2_with fail
    go_loopw [3] (fun i wr => ∃ k : Nat, k ≤ f.length ∧ i = .int .i64 k ∧ Grow w wr ∧ ∀ y ∈ f.take k, setB y = true) (fun i _ => f.length - (intOf i).toNat)
    case atStart => exact ⟨0, Nat.zero_le _, rfl, Grow.refl _, by simp⟩
    case round =>
      obtain ⟨k, hk, rfl, hg, hall⟩ := hrel
      have HALL := Lib.hid hall
      have HG := Lib.hid hg
      clear hall hg
      by_cases hlt : k < f.length
      · obtain ⟨x, hx⟩ : ∃ l, f[k]? = some l := ⟨_, List.getElem?_eq_getElem hlt⟩
        obtain ⟨b, o, ta, tc, rfl, hb, e0, hi⟩ := fam_at (HX.out.grow HG.out) hx
        have HT := Lib.hid hx
        have HI := Lib.hid hi
        have hlt2 : (k : Int) < (f.length : Int) := by omega
        clear hx hi
        cases hs : setB x with
        | false =>
          have HS := Lib.hid hs
          have HF0 := fun w' hg => HR.out w' hg
          rw [rall_false_at (f := setB) HT.out hs] at HF0
          have HF := Lib.hid (show ∀ w', Grow w w' → R (.returned (.int .i64 1)) w' from HF0)
          clear HF0 hs
          go_wp2_with fail
          refine r3isSet_any x _ _ HI.out _ ?_
          intro w2 hg2
          rw [HS.out]
          have HF2 := Lib.hid (HF.out w2 (HG.out.trans hg2))
          clear hg2
          go_wp2_with fail
          exact HF2.out
        | true =>
          have HS := Lib.hid hs
          clear hs
          go_wp2_with fail
          refine r3isSet_any x _ _ HI.out _ ?_
          intro w2 hg2
          rw [HS.out]
          have HG2 := Lib.hid (HG.out.trans hg2)
          clear hg2
          go_wp2_with fail
          go_roundw
          case rel => exact ⟨k + 1, by omega, by go_num, HG2.out, rall_take_succ HALL.out HT.out HS.out⟩
          case measure => simp [intOf]; omega
      · have HF0 := HR.out _ HG.out
        rw [rall_of_take HALL.out (by omega)] at HF0
        have HF := Lib.hid (show R (.returned (.int .i64 0)) wr from HF0)
        clear HF0
        have hn : k = f.length := by omega
        go_wp2_with fail
        exact HF.out
set_option maxHeartbeats 2000000 in
theorem r3mask_any (l : List Int) (v : Value) (w : World) (hs : IntsAt w v l) (hok : ∀ i ∈ l, 0 ≤ i ∧ i ≤ 7) (R : Ending → World → Prop) (hR : R (.returned (.int .i64 (mask l : Int))) w) :
    Calls Tryz.prog 73 #[v] w R := by
  have HS := Lib.hid hs
  have HR := Lib.hid hR
  have HOK := Lib.hid hok
  obtain ⟨a, c, rfl, h1, h2, _⟩ := hs
  clear hR hok
  go_enter Tryz.func73, Tryz.ntmps73
  go_wp2_with fail
  go_loopw [3, 4] (fun s i wr => ∃ j : Nat, j ≤ l.length ∧ i = .int .i64 j ∧ s = .int .i64 (mask (l.take j) : Int) ∧ wr = w) (fun _ i _ => l.length - (intOf i).toNat)
  case atStart => exact ⟨0, Nat.zero_le _, rfl, rfl, rfl⟩
  case round =>
    obtain ⟨j, hj, rfl, rfl, rfl⟩ := hrel
    by_cases hjl : j < l.length
    · obtain ⟨i, hi⟩ : ∃ x, l[j]? = some x := ⟨_, List.getElem?_eq_getElem hjl⟩
      obtain ⟨gb3, o3, rfl, hb3, f0⟩ := ints_at HS.out hi
      have hjl2 : (j : Int) < (l.length : Int) := by omega
      obtain ⟨hi0, hin⟩ := HOK.out i (List.mem_of_getElem? hi)
      obtain ⟨q, rfl⟩ : ∃ q : Nat, i = q := ⟨i.toNat, by omega⟩
      have hq8 : q < 8 := by omega
      have HMT := Lib.hid (mask_take hi)
      have hm1 : mask (l.take j) < 256 := mask_lt fun i hi => by have := (HOK.out i (List.mem_of_mem_take hi)).2; omega
      have hor := Mk.bits_or (mask (l.take j)) (2 ^ q) hm1 (pow_lt8 hq8)
      have HWP := Lib.hid (bwrap_pow (i := q) (by omega))
      have HOR := Lib.hid hor
      have y1 : (0 : Int) ≤ (q : Int) := by omega
      have y2 : (q : Int) ≤ 64 := by omega
      have y3 : IntKind.u64.wrap (q : Int) = (q : Int) := IntWalk.u64_in _ (by omega)
      clear hi hor
      go_wp2_with fail
      go_roundw
      case rel =>
        refine ⟨j + 1, by omega, by go_num, ?_, by first | rfl | trivial⟩
        rw [HMT.out]
        have h1 := HWP.out
        rw [IntWalk.i64_left] at h1
        simp only [Int.toNat_natCast] at h1 ⊢
        rw [Int.one_mul] at h1
        rw [← HOR.out, ← h1]
      case measure => simp [intOf]; omega
    · have hjn : j = l.length := by omega
      have HF := HR.out
      rw [show mask l = mask (l.take j) by rw [hjn, List.take_length]] at HF
      have HF2 := Lib.hid HF
      clear hjn HF
      go_wp2_with fail
      exact HF2.out
set_option maxHeartbeats 2000000 in
theorem r3masks_any (f : List (List Int)) (v : Value) (w : World) (hx : FamAt w v f) (hok : ∀ l ∈ f, setB l = true) (hlen : f.length ≤ 70) (R : Ending → World → Prop) (hR : ∀ w' v, Grow w w' → OwnI w.heap.size w' v (nI (f.map mask)) → R (.returned v) w') :
    Calls Tryz.prog 66 #[v] w R := by
  have HX := Lib.hid hx
  obtain ⟨a, c, rfl, h1, h2⟩ := hx.out
  rw [← mskI_eq] at hR
  have HR := Lib.hid hR
  have HOK := Lib.hid hok
  clear hR hok hx
  go_enter Tryz.func66, Tryz.ntmps66
  go_wp2_with fail
  go_loopw [3, 4] (fun out i wr => ∃ j : Nat, j ≤ f.length ∧ i = .int .i64 j ∧ Grow w wr ∧ wr.ownsRow w.heap.size 3 1 out (mskI (f.take j)).length ((mskI (f.take j)).flatMap encI)) (fun _ i _ => f.length - (intOf i).toNat)
  case atStart => exact ⟨0, Nat.zero_le _, rfl, Grow.refl _, World.ownsRow_nil _ _ _ _⟩
  case round =>
    obtain ⟨j, hj, rfl, hg, how⟩ := hrel
    have HGJ := Lib.hid hg
    have HOJ := Lib.hid how
    have hzj := hg.sz
    clear hg how
    by_cases hjn : j < f.length
    · obtain ⟨xs, ht⟩ : ∃ x, f[j]? = some x := ⟨_, List.getElem?_eq_getElem hjn⟩
      obtain ⟨b, o, ta, tc, rfl, hb, e0, hi⟩ := fam_at (HX.out.grow HGJ.out) ht
      have hjn2 : (j : Int) < (f.length : Int) := by omega
      have HI := Lib.hid hi
      have HT := Lib.hid (mskI_take ht)
      have HOX := Lib.hid ((setB_iff.1 (HOK.out xs (List.mem_of_getElem? ht))).1)
      have HLB := Lib.hid (show (mskI (f.take j)).length < 100000000000 by rw [mskI_len, List.length_take]; omega)
      clear ht hi
      go_wp2_with fail
      refine r3mask_any xs _ _ HI.out HOX.out _ ?_
      go_wp2_with (at_builtin; refine wpList_app _ rfl (.tmp 11) (.tmp 17) 29 rfl w.heap.size 3 Tryz.underlying29 info_int rfl (by decide) (by decide) encI encI_len encI_one _ (mskI (f.take j)) rfl (((Grow.refl _).alloc _).owns HOJ.out) _ (mask xs : Int) 1 rfl (newsG _ _ (by simp) (encI (mask xs : Int)) _) HLB.out (by simp; omega) ?_; intro out2 w7 hown7 hgr7)
      have HG10 := Lib.hid (show Grow w w7 from grown_below HOJ.out hgr7 (Nat.le_refl _) (by simp; omega) (HGJ.out.alloc _))
      have HO7 := Lib.hid hown7
      clear hown7 hgr7
      go_roundw
      case rel => exact ⟨j + 1, by omega, by go_num, HG10.out, by rw [HT.out]; exact HO7.out⟩
      case measure => simp [intOf]; omega
    · have hje : j = f.length := by omega
      have HO8 := HOJ.out
      rw [hje, List.take_length] at HO8
      have HO9 := Lib.hid HO8
      have HF := Lib.hid (fun v (h : wr.ownsRow w.heap.size 3 1 v (mskI f).length ((mskI f).flatMap encI)) => HR.out wr v HGJ.out ⟨_, h⟩)
      clear hje HO8
      go_wp2_with fail
      exact HF.out _ HO9.out
set_option maxHeartbeats 2000000 in
theorem r3list_any (s : Nat) (hs : s < 256) (w : World) (R : Ending → World → Prop) (hR : ∀ w' v, Grow w w' → OwnI w.heap.size w' v (lst s) → R (.returned v) w') :
    Calls Tryz.prog 88 #[.int .i64 (s : Int)] w R := by
  have HR := Lib.hid hR
  have hs2 : (s : Int) < 256 := by omega
  have hs3 : (0 : Int) ≤ (s : Int) := by omega
  clear hR
  go_enter Tryz.func88, Tryz.ntmps88
  go_wp2_with fail
  go_loopw [3, 4] (fun out i wr => ∃ j : Nat, j ≤ 8 ∧ i = .int .i64 j ∧ Grow w wr ∧ wr.ownsRow w.heap.size 3 1 out (mem j s).length ((mem j s).flatMap encI)) (fun _ i _ => 8 - (intOf i).toNat)
  case atStart => exact ⟨0, Nat.zero_le _, rfl, Grow.refl _, World.ownsRow_nil _ _ _ _⟩
  case round =>
    obtain ⟨j, hj, rfl, hg, how⟩ := hrel
    have HGJ := Lib.hid hg
    have HOJ := Lib.hid how
    have hzj := hg.sz
    clear hg how
    by_cases hjn : j < 8
    · have hjn2 : (j : Int) < 8 := by omega
      have hbd := bits_digit s j hs
      have HBS := Lib.hid (mem_succ j s)
      have z1 : (0 : Int) ≤ (j : Int) := by omega
      have z2 : (j : Int) ≤ 64 := by omega
      have z3 : IntKind.u64.wrap (j : Int) = (j : Int) := IntWalk.u64_in _ (by omega)
      have hbl := mem_len j s
      have HLB := Lib.hid (show (mem j s).length < 100000000000 by omega)
      clear hbl
      cases htb : s.testBit j with
      | false =>
        rw [htb, if_neg (by decide)] at hbd
        have HBE := Lib.hid (show mem (j + 1) s = mem j s by rw [HBS.out, htb, if_neg (by decide), List.append_nil])
        clear htb
        go_wp2_with fail
        go_roundw
        case rel => exact ⟨j + 1, by omega, by go_num, HGJ.out, by rw [HBE.out]; exact HOJ.out⟩
        case measure => simp [intOf]; omega
      | true =>
        rw [htb, if_pos rfl] at hbd
        have HBE := Lib.hid (show mem (j + 1) s = mem j s ++ [(j : Int)] by rw [HBS.out, htb, if_pos rfl])
        clear htb
        go_wp2_with (at_builtin; refine wpList_app _ rfl (.tmp 15) (.tmp 17) 29 rfl w.heap.size 3 Tryz.underlying29 info_int rfl (by decide) (by decide) encI encI_len encI_one _ (mem j s) rfl (((Grow.refl _).alloc _).owns HOJ.out) _ (j : Int) 1 rfl (newsG _ _ (by simp) (encI (j : Int)) _) HLB.out (by simp; omega) ?_; intro out2 w7 hown7 hgr7)
        have HG10 := Lib.hid (show Grow w w7 from grown_below HOJ.out hgr7 (Nat.le_refl _) (by simp; omega) (HGJ.out.alloc _))
        have HO7 := Lib.hid hown7
        clear hown7 hgr7
        go_roundw
        case rel => exact ⟨j + 1, by omega, by go_num, HG10.out, by rw [HBE.out]; exact HO7.out⟩
        case measure => simp [intOf]; omega
    · have hje : j = 8 := by omega
      subst hje
      have HF := Lib.hid (HR.out wr)
      go_wp2_with fail
      exact HF.out _ HGJ.out ⟨_, HOJ.out⟩
/-! ### What hits a family -/
theorem hit_take {F : List Nat} {m k x : Nat} (h : hit (F.take k) m = true) (hx : F[k]? = some x) (h2 : x &&& m ≠ 0) : hit (F.take (k + 1)) m = true := by
  rw [hit_iff] at h ⊢
  intro y hy
  rw [List.take_add_one, hx] at hy
  rcases List.mem_append.1 hy with hy | hy
  · exact h y hy
  · simp at hy; subst hy; exact h2
theorem hit_no {F : List Nat} {m k x : Nat} (hx : F[k]? = some x) (h2 : x &&& m = 0) : hit F m = false := by
  cases hh : hit F m with
  | false => rfl
  | true => exact absurd h2 (hit_iff.1 hh x (List.mem_of_getElem? hx))
set_option maxHeartbeats 2000000 in
theorem r3hits_any (F : List Nat) (hF : ∀ x ∈ F, x < 256) (m : Nat) (hm : m < 256) (v : Value) (w : World) (hv : IntsAt w v (nI F)) (R : Ending → World → Prop) (hR : R (.returned (.bool (hit F m))) w) :
    Calls Tryz.prog 72 #[v, .int .i64 (m : Int)] w R := by
  have HV := Lib.hid hv
  have HR := Lib.hid hR
  have HFL := Lib.hid hF
  obtain ⟨a, c, rfl, h1, h2, _⟩ := hv
  clear hR hF
  rw [nI_len] at h1
  have hnl := nI_len F
  have HVN := Lib.hid (show IntsAt w (.slice a (nI F).length c) (nI F) from HV.out)
  rw [hnl]
  have HVM := Lib.hid (show IntsAt w (.slice a F.length c) (nI F) from hnl ▸ HV.out)
  clear hnl HV HVN
  go_enter Tryz.func72, Tryz.ntmps72
  go_wp2_with fail
  go_loopw [5] (fun i wr => ∃ k : Nat, k ≤ F.length ∧ i = .int .i64 k ∧ wr = w ∧ hit (F.take k) m = true) (fun i _ => F.length - (intOf i).toNat)
  case atStart => exact ⟨0, Nat.zero_le _, rfl, rfl, rfl⟩
  case round =>
    obtain ⟨k, hk, rfl, rfl, hh⟩ := hrel
    have HH := Lib.hid hh
    clear hh
    by_cases hlt : k < F.length
    · obtain ⟨x, hx⟩ : ∃ x, F[k]? = some x := ⟨_, List.getElem?_eq_getElem hlt⟩
      obtain ⟨b, o, rfl, hb, e0⟩ := ints_at HVM.out (nI_at hx)
      have hlt2 : (k : Int) < (F.length : Int) := by omega
      have HX := Lib.hid hx
      have hand := and_is (HFL.out x (List.mem_of_getElem? hx)) hm
      clear hx
      by_cases h0 : x &&& m = 0
      · have hno := hit_no HX.out h0
        have HF := Lib.hid (show R (.returned (.bool false)) wr from by have := HR.out; rw [hno] at this; exact this)
        rw [decide_eq_true h0] at hand
        clear hno h0
        go_wp2_with fail
        exact HF.out
      · have HN := Lib.hid (hit_take HH.out HX.out h0)
        rw [decide_eq_false h0] at hand
        clear h0
        go_wp2_with fail
        go_roundw
        case rel => exact ⟨k + 1, by omega, by go_num, by first | rfl | trivial, HN.out⟩
        case measure => simp [intOf]; omega
    · have hkn : k = F.length := by omega
      have hh := HH.out
      rw [hkn, List.take_length] at hh
      have HF := Lib.hid (show R (.returned (.bool true)) wr from by have := HR.out; rw [hh] at this; exact this)
      clear hh hkn
      go_wp2_with fail
      exact HF.out
theorem r3hits_still (F : List Nat) (hF : ∀ x ∈ F, x < 256) (m : Nat) (hm : m < 256) (v : Value) (w : World) (hv : IntsAt w v (nI F)) : Calls Tryz.prog 72 #[v, .int .i64 (m : Int)] w fun e w' => e = .returned (.bool (hit F m)) ∧ w' = w := r3hits_any F hF m hm v w hv _ ⟨rfl, rfl⟩
end Go.Proofs.YtmlbgfnddgbpbaaGreat

namespace Go.Proofs.YtmlbgfnddgbpbaaGreat
open Go.RowKit
open Mk Bm

set_option maxHeartbeats 2000000 in
theorem r3Hits_any (f : List (List Int)) (s : List Int) (v u : Value) (w : World) (hf : FamAt w v f) (hs : IntsAt w u s) (R : Ending → World → Prop) (hR : ∀ w', Grow w w' → R (.returned (.tuple #[.bool (hitsB f s), .int .i64 (hitsE f s)])) w') :
    Calls Tryz.prog 26 #[v, u] w R := by
  have HFM := Lib.hid hf
  have HS := Lib.hid hs
  unfold hitsB hitsE at hR
  have HR := Lib.hid hR
  obtain ⟨e, he⟩ : ∃ e, valF f = e := ⟨_, rfl⟩
  rw [he] at HR
  have HE := Lib.hid he
  obtain ⟨a, c, rfl, h1, h2⟩ := hf.out
  obtain ⟨sa, sc, rfl, _⟩ := hs
  clear hR hf
  by_cases h0 : e = 0
  · subst h0
    rw [if_pos rfl] at HR
    have HML := Lib.hid (masks_lt he)
    obtain ⟨hl70, hall⟩ := valF_ok.1 he
    have HALL := Lib.hid hall
    obtain ⟨q, hq⟩ : ∃ q, setB s = q := ⟨_, rfl⟩
    rw [hq] at HR
    have HQ := Lib.hid hq
    clear he hall hq
    cases q with
    | false =>
      have HF := Lib.hid (fun w' h => show R (.returned (.tuple #[.bool false, .int .i64 1])) w' from HR.out w' h)
      go_enter Tryz.func26, Tryz.ntmps26
      go_wp2_with fail
      refine r3Validate_any f _ _ HFM.out _ ?_
      intro w1 hg1
      rw [HE.out]
      have HG1 := Lib.hid hg1
      clear hg1
      go_wp2_with fail
      refine r3isSet_any s _ _ (HS.out.grow HG1.out) _ ?_
      intro w2 hg2
      rw [HQ.out]
      have HF2 := Lib.hid (HF.out w2 (HG1.out.trans hg2))
      clear hg2
      go_wp2_with fail
      exact HF2.out
    | true =>
      have HSM := Lib.hid (set_mask HQ.out).1
      have HOK := Lib.hid (setB_iff.1 HQ.out).1
      have HF := Lib.hid (fun w' h => show R (.returned (.tuple #[.bool (hit (f.map mask) (mask s)), .int .i64 0])) w' from HR.out w' h)
      go_enter Tryz.func26, Tryz.ntmps26
      go_wp2_with fail
      refine r3Validate_any f _ _ HFM.out _ ?_
      intro w1 hg1
      rw [HE.out]
      have HG1 := Lib.hid hg1
      clear hg1
      go_wp2_with fail
      refine r3isSet_any s _ _ (HS.out.grow HG1.out) _ ?_
      intro w2 hg2
      rw [HQ.out]
      have HG2 := Lib.hid (HG1.out.trans hg2)
      clear hg2
      go_wp2_with fail
      refine r3masks_any f _ _ (HFM.out.grow HG2.out) HALL.out hl70 _ ?_
      intro w3 v3 hg3 hv3
      have hv4 := hv3.slc encI_len
      have HV4 := Lib.hid hv4
      have HG3 := Lib.hid (HG2.out.trans hg3)
      obtain ⟨a3, c3, rfl, _⟩ := hv4
      clear hg3 hv3
      go_wp2_with fail
      refine r3mask_any s _ _ (HS.out.grow HG3.out) HOK.out _ ?_
      go_wp2_with fail
      refine r3hits_any (f.map mask) HML.out (mask s) HSM.out _ _ HV4.out _ ?_
      have HF2 := Lib.hid (HF.out w3 HG3.out)
      generalize hit (f.map mask) (mask s) = q at HF2 ⊢
      go_wp2_with fail
      exact HF2.out
  · rw [if_neg h0] at HR
    have t1 : (e != 0) = true := by simpa using h0
    have hd : decide (e = 0) = false := decide_eq_false h0
    have HF := Lib.hid (fun w' h => show R (.returned (.tuple #[.bool false, .int .i64 e])) w' from by have := HR.out w' h; rw [hd] at this; exact this)
    clear h0 he hd
    go_enter Tryz.func26, Tryz.ntmps26
    go_wp2_with fail
    refine r3Validate_any f _ _ HFM.out _ ?_
    intro w1 hg1
    rw [HE.out]
    have HF2 := Lib.hid (HF.out w1 hg1)
    clear hg1
    go_wp2_with fail
    exact HF2.out


/-! ### Which of two lists comes first -/
set_option maxHeartbeats 4000000 in
theorem r3before_any (xs ys : List Int) (v u : Value) (w : World) (hx : IntsAt w v xs) (hy : IntsAt w u ys) (R : Ending → World → Prop) (hR : ∀ w', Grow w w' → R (.returned (.bool (Ls.lt xs ys))) w') :
    Calls Tryz.prog 116 #[v, u] w R := by
  have HX := Lib.hid hx
  have HY := Lib.hid hy
  have HR := Lib.hid hR
  obtain ⟨a, c, rfl, h1, h2, _⟩ := hx
  obtain ⟨a', c', rfl, h1', h2', _⟩ := hy
  clear hR
  go_enter Tryz.func116, Tryz.ntmps116
  go_wp2_with fail
  go_loopw [5] (fun i wr => ∃ k : Nat, k ≤ xs.length ∧ k ≤ ys.length ∧ i = .int .i64 k ∧ Grow w wr ∧ xs.take k = ys.take k) (fun i _ => xs.length - (intOf i).toNat)
  case atStart => exact ⟨0, Nat.zero_le _, Nat.zero_le _, rfl, Grow.refl _, rfl⟩
  case round =>
    obtain ⟨k, hk, hk', rfl, hg, hs⟩ := hrel
    have HS := Lib.hid hs
    have HG := Lib.hid hg
    clear hs hg
    by_cases hlt : k < xs.length
    · have hlt2 : (k : Int) < (xs.length : Int) := by omega
      by_cases hlt' : k < ys.length
      · have hlt3 : (k : Int) < (ys.length : Int) := by omega
        obtain ⟨x, hx⟩ : ∃ l, xs[k]? = some l := ⟨_, List.getElem?_eq_getElem hlt⟩
        obtain ⟨y, hy⟩ : ∃ l, ys[k]? = some l := ⟨_, List.getElem?_eq_getElem hlt'⟩
        obtain ⟨b, o, rfl, hb, e0⟩ := ints_at (HX.out.grow HG.out) hx
        obtain ⟨b', o', rfl, hb', e1⟩ := ints_at (HY.out.grow HG.out) hy
        have HXX := Lib.hid hx
        have HYY := Lib.hid hy
        clear hx hy
        by_cases hxy : x = y
        · subst hxy
          have HT := Lib.hid (take_succ_eq HS.out HXX.out HYY.out)
          have t1 : (x != x) = false := by simp
          go_wp2_with (go_quiet (fail))
          go_roundw
          case rel => exact ⟨k + 1, by omega, by omega, by go_num, HG.out.drewN _, HT.out⟩
          case measure => simp [intOf]; omega
        · have t1 : (x != y) = true := by simpa using hxy
          have hd := lt_differ HS.out HXX.out HYY.out hxy
          have HF := Lib.hid (fun w' h => show R (.returned (.bool (decide (x < y)))) w' from hd ▸ HR.out w' (HG.out.trans h))
          clear hd
          go_wp2_with (go_quiet (fail))
          exact HF.out _ (by first | exact (Grow.refl _).drewN _ | exact ((Grow.refl _).drewN _).trans ((Grow.refl _).drewN _) | exact Grow.refl _)
      · have hlt3 : ¬ (k : Int) < (ys.length : Int) := by omega
        have hd := lt_end HS.out hk hk' (by omega)
        have HF := Lib.hid (show R (.returned (.bool (decide (xs.length < ys.length)))) wr from hd ▸ HR.out _ HG.out)
        clear hd
        go_wp2_with fail
        exact HF.out
    · have hlt2 : ¬ (k : Int) < (xs.length : Int) := by omega
      have hd := lt_end HS.out hk hk' (by omega)
      have HF := Lib.hid (show R (.returned (.bool (decide (xs.length < ys.length)))) wr from hd ▸ HR.out _ HG.out)
      clear hd
      go_wp2_with fail
      exact HF.out
end Go.Proofs.YtmlbgfnddgbpbaaGreat

namespace Go.Proofs.YtmlbgfnddgbpbaaGreat
open Go.RowKit
open Mk Bm

theorem LoOwn.fam {base : Nat} {T : TypeId} {w : World} {v : Value} {L : List (Lo Int)} (h : LoOwn base T 1 encI w v L) : FamAt w v (L.map Lo.x) := ⟨L, h.at_, h.ins, rfl⟩
/-- The beginning of a list, and what stands behind it. -/
theorem slc_take {α : Type} {enc : α → List Value} {w : World} {a : Option Addr} {n c : Nat} {xs : List α} (h : SlcAt 1 enc w (.slice a n c) xs) {j : Nat} (hj : j ≤ xs.length) : SlcAt 1 enc w (.slice a j c) (xs.take j) := by
  obtain ⟨_, _, e, h1, h2, h3⟩ := h
  cases e
  have hl : (xs.take j).length = j := by rw [List.length_take]; omega
  refine ⟨a, c, by rw [hl], by omega, h2, ?_⟩
  rcases h3 with ⟨e, h3⟩ | ⟨b, o, rfl, hb, h3⟩
  · exact .inl ⟨by rw [e]; simp, h3⟩
  · refine .inr ⟨b, o, rfl, hb, fun i x hx => h3 i x ?_⟩
    have hi : i < j := by have := (List.getElem?_eq_some_iff.1 hx).1; omega
    rw [List.getElem?_take] at hx
    rwa [if_pos hi] at hx
theorem slc_drop {α : Type} {enc : α → List Value} {w : World} {a : Option Addr} {n c : Nat} {xs : List α} (h : SlcAt 1 enc w (.slice a n c) xs) {j : Nat} (hj : j ≤ xs.length) : SlcAt 1 enc w (.slice (if c = j then a else a.map (·.add j)) (n - j) (c - j)) (xs.drop j) := by
  obtain ⟨_, _, e, h1, h2, h3⟩ := h
  cases e
  have hl : (xs.drop j).length = xs.length - j := List.length_drop
  refine ⟨_, c - j, by rw [hl], by omega, by omega, ?_⟩
  rcases h3 with ⟨e, h3⟩ | ⟨b, o, rfl, hb, h3⟩
  · refine .inl ⟨by rw [e]; simp, fun ha => ?_⟩
    subst e
    have hj0 : j = 0 := by simpa using hj
    subst hj0
    split at ha
    · have := h3 ha; omega
    · cases a with
      | none => have := h3 rfl; omega
      | some a => cases ha
  · by_cases hc : c = j
    · subst hc
      exact .inl ⟨List.drop_eq_nil_of_le (by omega), fun ha => by rw [if_pos rfl] at ha; cases ha⟩
    · rw [if_neg hc]
      refine .inr ⟨b, o + j, by simp [Addr.add_lit], hb, fun i x hx i2 u hu => ?_⟩
      rw [List.getElem?_drop] at hx
      have := h3 (j + i) x hx i2 u hu
      rw [show o + j + i * 1 + i2 = o + (j + i) * 1 + i2 by omega]
      exact this
theorem slc_drop_at {α : Type} {enc : α → List Value} {w : World} {b o n c : Nat} {xs : List α} (h : SlcAt 1 enc w (.slice (some ⟨b, o, none⟩) n c) xs) {j : Nat} (hj : j ≤ xs.length) (hc : j < c) : SlcAt 1 enc w (.slice (some ⟨b, o + j, none⟩) (n - j) (c - j)) (xs.drop j) := by
  have h1 := slc_drop h hj
  rw [if_neg (by omega)] at h1
  simpa [Addr.add_lit] using h1
set_option maxRecDepth 100000 in
set_option maxHeartbeats 16000000 in
theorem r3ordered_any (F : List Nat) (hF : ∀ x ∈ F, x < 256) (hlen : F.length ≤ 1000) (v : Value) (w : World) (hv : IntsAt w v (nI F)) (R : Ending → World → Prop) (hR : ∀ w' v, Grow w w' → FamAt w' v (Ls.ord F) → R (.returned v) w') :
    Calls Tryz.prog 64 #[v] w R := by
  have HR := Lib.hid hR
  have HFL := Lib.hid hF
  obtain ⟨a, c, rfl, hv1⟩ := hv
  have HVM := Lib.hid (show IntsAt w (.slice a (nI F).length c) (nI F) from ⟨a, c, rfl, hv1⟩)
  rw [nI_len] at HVM ⊢
  clear hR hF hv1
  go_enter Tryz.func64, Tryz.ntmps64
  go_wp2_with fail
  go_loopw [3, 4, 5, 6, 7] (fun out i _ _ _ wr => ∃ k : Nat, k ≤ F.length ∧ i = .int .i64 k ∧ Grow w wr ∧ FamAt wr out (Ls.srt ((F.take k).map lst))) (fun _ i _ _ _ _ => F.length - (intOf i).toNat)
  case atStart => exact ⟨0, Nat.zero_le _, rfl, Grow.refl _, FamAt.nil _⟩
  case round =>
    obtain ⟨k, hk, rfl, hg, hfm⟩ := hrel
    have HG := Lib.hid hg
    have HFM := Lib.hid hfm
    obtain ⟨oa, oc, rfl, o1, o2⟩ := hfm.out
    clear hg hfm
    by_cases hlt : k < F.length
    · obtain ⟨x, hx⟩ : ∃ x, F[k]? = some x := ⟨_, List.getElem?_eq_getElem hlt⟩
      obtain ⟨b, o, rfl, hb, e0⟩ := ints_at (HVM.out.grow HG.out) (nI_at hx)
      have hlt2 : (k : Int) < (F.length : Int) := by omega
      have hx256 := HFL.out x (List.mem_of_getElem? hx)
      have hst : Ls.srt ((F.take (k + 1)).map lst) = Ls.ins (Ls.srt ((F.take k).map lst)) (lst x) := by rw [List.take_add_one, hx, List.map_append]; exact Ls.srt_snoc _ _
      have HST := Lib.hid hst
      obtain ⟨M, hM⟩ : ∃ M, Ls.srt ((F.take k).map lst) = M := ⟨_, rfl⟩
      have hMl : M.length = k := by rw [← hM, Ls.srt_len, List.length_map, List.length_take]; omega
      rw [hM] at HST HFM o1 ⊢
      have HML := Lib.hid hMl
      clear hx hst hM hMl
      go_wp2_with fail
      refine r3list_any x hx256 _ _ ?_
      intro w2 v2 hg2 hv2
      have hx2 := hv2.slc encI_len
      obtain ⟨a2, c2, hve, q1, q2, jk⟩ := hx2
      subst hve
      have HX2 := Lib.hid (show IntsAt w2 (.slice a2 (lst x).length c2) (lst x) from ⟨a2, c2, rfl, q1, q2, jk⟩)
      have HF2 := Lib.hid (HFM.out.grow hg2)
      have HG2 := Lib.hid (HG.out.trans hg2)
      clear jk hv2 hg2 e0
      go_wp2_with fail
      obtain ⟨wo, rfl⟩ : ∃ w3 : World, w3 = wr := ⟨_, rfl⟩
      go_loopw [6] (fun at_ wr2 => ∃ j : Nat, j ≤ M.length ∧ at_ = .int .i64 j ∧ Grow w2 wr2 ∧ ∀ y ∈ M.take j, Ls.lt y (lst x) = true) (fun at_ _ => M.length - (intOf at_).toNat)
      case atStart => exact ⟨0, Nat.zero_le _, rfl, Grow.refl _, by simp⟩
      case round =>
        obtain ⟨j, hj, rfl, hgr, hall⟩ := hrel
        have HALL := Lib.hid hall
        have HGR := Lib.hid hgr
        clear hall hgr
        have hdone : (∀ y, M[j]? = some y → Ls.lt y (lst x) = false) → Ls.ins M (lst x) = M.take j ++ lst x :: M.drop j := fun h => by
          have := Ls.at_step HALL.out hj h
          unfold Ls.ins; rw [this]
        have HDONE := Lib.hid hdone
        clear hdone
        obtain ⟨L, hL, hLi, hLm⟩ := HF2.out
        have HLL := Lib.hid hL
        have HLI := Lib.hid hLi
        have HLM := Lib.hid hLm
        have hLn : L.length = M.length := by rw [← hLm, List.length_map]
        have HLN := Lib.hid hLn
        have hMk : M.length ≤ 1000 := by have := HML.out; omega
        clear hL hLi hLm hLn
        by_cases hjl : j < M.length
        · obtain ⟨y, hy⟩ : ∃ l, M[j]? = some l := ⟨_, List.getElem?_eq_getElem hjl⟩
          obtain ⟨b', o', ta, tc, rfl, hb', e1, hi⟩ := fam_at (HF2.out.grow HGR.out) hy
          have HY := Lib.hid hy
          have HI := Lib.hid hi
          have hj2 : (j : Int) < (M.length : Int) := by omega
          clear hy hi
          go_wp2_with fail
          refine r3before_any y (lst x) _ _ _ HI.out (HX2.out.grow HGR.out) _ ?_
          intro wx hg3
          have HGW := Lib.hid (HGR.out.trans hg3)
          clear hg3
          cases hly : Ls.lt y (lst x) with
          | true =>
            have HLY := Lib.hid hly
            clear hly
            go_wp2_with fail
            go_roundw
            case rel =>
              refine ⟨j + 1, by omega, by go_num, HGW.out, fun z hz => ?_⟩
              rw [List.take_add_one, HY.out] at hz
              rcases List.mem_append.1 hz with hz | hz
              · exact HALL.out z hz
              · simp at hz; subst hz; exact HLY.out
            case measure => simp [intOf]; omega
          | false =>
            have HIN := Lib.hid (HDONE.out fun z hz => by rw [HY.out] at hz; cases hz; exact hly)
            clear hly e1
            go_wp2_with (at_builtin; refine Classical.byContradiction (fun hcon => ?_))
            refine hcon ?_
            clear hcon
            refine wpList_appAll _ rfl (.tmp 33) (.tmp 36) 22 rfl wx.heap.size 29 Tryz.underlying22 info_sli rfl (by decide) (by decide) encLo encLo_len encLo_one _ [] rfl (World.ownsRow_nil _ _ _ _) _ (L.take j) rfl (slc_take (HLL.out.grow HGW.out) (by have := HLN.out; omega)) (by have := HLN.out; rw [List.length_take]; simp; omega) (Nat.le_refl _) ?_
            intro v3 w3 hown3 hgr3
            rw [List.nil_append] at hown3
            have hg3 : Grow wx w3 := grown_below (World.ownsRow_nil wx wx.heap.size 29 1) hgr3 (Nat.le_refl _) (Nat.le_refl _) (Grow.refl wx)
            have HO3 := Lib.hid hown3
            have HG3 := Lib.hid hg3
            have hz3 := hg3.sz
            clear hown3 hgr3 hg3
            go_wp2_with (at_builtin; refine Classical.byContradiction (fun hcon => ?_))
            refine hcon ?_
            clear hcon
            refine wpList_app _ rfl (.tmp 38) (.tmp 40) 22 rfl wx.heap.size 29 Tryz.underlying22 info_sli rfl (by decide) (by decide) encLo encLo_len encLo_one v3 (L.take j) rfl (((Grow.refl w3).alloc _).owns HO3.out) _ (⟨a2, (lst x).length, c2, lst x⟩ : Lo Int) 1 rfl (newsG w3 _ rfl (encLo (⟨a2, (lst x).length, c2, lst x⟩ : Lo Int)) 29) (by have := HLN.out; rw [List.length_take]; omega) (by simp; omega) ?_
            intro v4 w4 hown4 hgr4
            have hg4 : Grow wx w4 := grown_below HO3.out hgr4 (Nat.le_refl _) (by simp; omega) (HG3.out.alloc (.cells #[.slice a2 (lst x).length c2] 29))
            have HO4 := Lib.hid hown4
            have HG4 := Lib.hid hg4
            have hz4 := hg4.sz
            clear hown4 hgr4 hg4
            go_wp2_with (at_builtin; refine Classical.byContradiction (fun hcon => ?_))
            refine hcon ?_
            clear hcon
            refine wpList_appAll _ rfl (.tmp 42) (.tmp 45) 22 rfl wx.heap.size 29 Tryz.underlying22 info_sli rfl (by decide) (by decide) encLo encLo_len encLo_one v4 (L.take j ++ [(⟨a2, (lst x).length, c2, lst x⟩ : Lo Int)]) rfl HO4.out _ (L.drop j) rfl (by first | exact slc_drop_at ((HLL.out.grow HGW.out).grow HG4.out) (by have := HLN.out; omega) (by omega) | exact slc_drop ((HLL.out.grow HGW.out).grow HG4.out) (by have := HLN.out; omega) | simpa using slc_drop ((HLL.out.grow HGW.out).grow HG4.out) (j := j) (by have := HLN.out; omega)) (by have := HLN.out; rw [List.length_append, List.length_take, List.length_drop]; simp; omega) (by omega) ?_
            intro v5 w5 hown5 hgr5
            have hg5 : Grow wx w5 := grown_below HO4.out hgr5 (Nat.le_refl _) (by omega) HG4.out
            have HFN := Lib.hid (show FamAt w5 v5 (Ls.srt ((F.take (k + 1)).map lst)) from by
              refine ⟨L.take j ++ [(⟨a2, (lst x).length, c2, lst x⟩ : Lo Int)] ++ L.drop j, slc_of_owns encLo_len hown5, fun t ht => ?_, ?_⟩
              · rcases List.mem_append.1 ht with ht | ht
                · rcases List.mem_append.1 ht with ht | ht
                  · exact (HLI.out t (List.mem_of_mem_take ht)).grow (HGW.out.trans hg5)
                  · simp at ht; subst ht; exact HX2.out.grow (HGW.out.trans hg5)
                · exact (HLI.out t (List.mem_of_mem_drop ht)).grow (HGW.out.trans hg5)
              · rw [HST.out, HIN.out, ← HLM.out]; simp)
            have HG5 := Lib.hid ((HG2.out.trans HGW.out).trans hg5)
            clear hown5 hgr5 hg5
            go_wp2_with fail
            go_roundw
            case rel => exact ⟨k + 1, by omega, by go_num, HG5.out, HFN.out⟩
            case measure => simp [intOf]; omega
        · have HIN := Lib.hid (HDONE.out fun z hz => absurd (List.getElem?_eq_some_iff.1 hz).1 hjl)
          have hj2 : ¬ (j : Int) < (M.length : Int) := by omega
          have HGW := HGR
          go_wp2_with (at_builtin; refine Classical.byContradiction (fun hcon => ?_))
          refine hcon ?_
          clear hcon
          refine wpList_appAll _ rfl (.tmp 33) (.tmp 36) 22 rfl wr.heap.size 29 Tryz.underlying22 info_sli rfl (by decide) (by decide) encLo encLo_len encLo_one _ [] rfl (World.ownsRow_nil _ _ _ _) _ (L.take j) rfl (slc_take (HLL.out.grow HGW.out) (by have := HLN.out; omega)) (by have := HLN.out; rw [List.length_take]; simp; omega) (Nat.le_refl _) ?_
          intro v3 w3 hown3 hgr3
          rw [List.nil_append] at hown3
          have hg3 : Grow wr w3 := grown_below (World.ownsRow_nil wr wr.heap.size 29 1) hgr3 (Nat.le_refl _) (Nat.le_refl _) (Grow.refl wr)
          have HO3 := Lib.hid hown3
          have HG3 := Lib.hid hg3
          have hz3 := hg3.sz
          clear hown3 hgr3 hg3
          go_wp2_with (at_builtin; refine Classical.byContradiction (fun hcon => ?_))
          refine hcon ?_
          clear hcon
          refine wpList_app _ rfl (.tmp 38) (.tmp 40) 22 rfl wr.heap.size 29 Tryz.underlying22 info_sli rfl (by decide) (by decide) encLo encLo_len encLo_one v3 (L.take j) rfl (((Grow.refl w3).alloc _).owns HO3.out) _ (⟨a2, (lst x).length, c2, lst x⟩ : Lo Int) 1 rfl (newsG w3 _ rfl (encLo (⟨a2, (lst x).length, c2, lst x⟩ : Lo Int)) 29) (by have := HLN.out; rw [List.length_take]; omega) (by simp; omega) ?_
          intro v4 w4 hown4 hgr4
          have hg4 : Grow wr w4 := grown_below HO3.out hgr4 (Nat.le_refl _) (by simp; omega) (HG3.out.alloc (.cells #[.slice a2 (lst x).length c2] 29))
          have HO4 := Lib.hid hown4
          have HG4 := Lib.hid hg4
          have hz4 := hg4.sz
          clear hown4 hgr4 hg4
          go_wp2_with (at_builtin; refine Classical.byContradiction (fun hcon => ?_))
          refine hcon ?_
          clear hcon
          refine wpList_appAll _ rfl (.tmp 42) (.tmp 45) 22 rfl wr.heap.size 29 Tryz.underlying22 info_sli rfl (by decide) (by decide) encLo encLo_len encLo_one v4 (L.take j ++ [(⟨a2, (lst x).length, c2, lst x⟩ : Lo Int)]) rfl HO4.out _ (L.drop j) rfl (by first | exact slc_drop_at ((HLL.out.grow HGW.out).grow HG4.out) (by have := HLN.out; omega) (by omega) | exact slc_drop ((HLL.out.grow HGW.out).grow HG4.out) (by have := HLN.out; omega) | simpa using slc_drop ((HLL.out.grow HGW.out).grow HG4.out) (j := j) (by have := HLN.out; omega)) (by have := HLN.out; rw [List.length_append, List.length_take, List.length_drop]; simp; omega) (by omega) ?_
          intro v5 w5 hown5 hgr5
          have hg5 : Grow wr w5 := grown_below HO4.out hgr5 (Nat.le_refl _) (by omega) HG4.out
          have HFN := Lib.hid (show FamAt w5 v5 (Ls.srt ((F.take (k + 1)).map lst)) from by
            refine ⟨L.take j ++ [(⟨a2, (lst x).length, c2, lst x⟩ : Lo Int)] ++ L.drop j, slc_of_owns encLo_len hown5, fun t ht => ?_, ?_⟩
            · rcases List.mem_append.1 ht with ht | ht
              · rcases List.mem_append.1 ht with ht | ht
                · exact (HLI.out t (List.mem_of_mem_take ht)).grow (HGW.out.trans hg5)
                · simp at ht; subst ht; exact HX2.out.grow (HGW.out.trans hg5)
              · exact (HLI.out t (List.mem_of_mem_drop ht)).grow (HGW.out.trans hg5)
            · rw [HST.out, HIN.out, ← HLM.out]; simp)
          have HG5 := Lib.hid ((HG2.out.trans HGW.out).trans hg5)
          clear hown5 hgr5 hg5
          go_wp2_with fail
          go_roundw
          case rel => exact ⟨k + 1, by omega, by go_num, HG5.out, HFN.out⟩
          case measure => simp [intOf]; omega
    · have hkn : k = F.length := by omega
      have hfm := HFM.out
      rw [hkn, List.take_length] at hfm
      have HF := Lib.hid (fun V (e : V = _) => HR.out wr V HG.out (e ▸ hfm))
      clear hfm
      have hlt2 : ¬ (k : Int) < (F.length : Int) := by omega
      go_wp2_with fail
      exact HF.out _ (by first | rfl | rw [hkn, List.take_length])
end Go.Proofs.YtmlbgfnddgbpbaaGreat

namespace Go.Proofs.YtmlbgfnddgbpbaaGreat
open Go.RowKit
open Mk Bm

theorem minH_no {F : List Nat} {m : Nat} (h : hit F m = false) : minH F m = false := by unfold minH; rw [h]; rfl
theorem blkN_len (F : List Nat) (n : Nat) : (blkN F n).length ≤ n := by unfold blkN; have := List.length_filter_le (minH F) (List.range n); simpa using this
theorem sub_pow {n j : Nat} (hn : n < 256) (hj : j < 8) (h : n.testBit j = true) : IntKind.i64.wrap ((n : Int) - IntKind.i64.wrap (1 * 2 ^ j)) = ((n - 2 ^ j : Nat) : Int) := by
  have h1 := pow_le_of h
  rw [bwrap_pow (by omega)]
  generalize 2 ^ j = q at h1 ⊢
  rw [IntWalk.i64_in _ (by omega)]
  omega
theorem sub_pow2 {n j : Nat} (hn : n < 256) (hj : j < 8) (h : n.testBit j = true) : wrap64 ((n : Int) - wrap64 (2 ^ j)) = ((n - 2 ^ j : Nat) : Int) := by
  have h1 := sub_pow hn hj h
  rw [IntWalk.i64_left, IntWalk.i64_left, Int.one_mul] at h1
  exact h1
set_option maxRecDepth 100000 in
set_option maxHeartbeats 8000000 in
theorem r3blocker_any (F : List Nat) (hF : ∀ x ∈ F, x < 256) (v : Value) (w : World) (hv : IntsAt w v (nI F)) (R : Ending → World → Prop) (hR : ∀ w' v, Grow w w' → IntsAt w' v (nI (blk F)) → R (.returned v) w') :
    Calls Tryz.prog 65 #[v] w R := by
  have HR := Lib.hid hR
  have HFL := Lib.hid hF
  obtain ⟨a, c, rfl, hv1⟩ := hv
  have HVM := Lib.hid (show IntsAt w (.slice a (nI F).length c) (nI F) from ⟨a, c, rfl, hv1⟩)
  rw [nI_len] at HVM ⊢
  clear hR hF hv1
  go_enter Tryz.func65, Tryz.ntmps65
  go_wp2_with fail
  go_loopw [3, 4, 5, 6] (fun out i _ _ wr => ∃ n : Nat, n ≤ 256 ∧ i = .int .i64 n ∧ Grow w wr ∧ wr.ownsRow w.heap.size 3 1 out (nI (blkN F n)).length ((nI (blkN F n)).flatMap encI)) (fun _ i _ _ _ => 256 - (intOf i).toNat)
  case atStart => exact ⟨0, by omega, rfl, Grow.refl _, World.ownsRow_nil _ _ _ _⟩
  case round =>
    obtain ⟨n, hn, rfl, hg, how⟩ := hrel
    have HG := Lib.hid hg
    have HO := Lib.hid how
    have hzj := hg.sz
    clear hg how
    by_cases hlt : n < 256
    · have hlt2 : (n : Int) < 256 := by omega
      have HBS := Lib.hid (blkN_succ F n)
      have HLB := Lib.hid (show (nI (blkN F n)).length < 100000000000 by rw [nI_len]; have := blkN_len F n; omega)
      have HVW := Lib.hid (HVM.out.grow HG.out)
      go_wp2_with fail
      refine r3hits_any F HFL.out n hlt _ _ HVW.out _ ?_
      cases hh : hit F n with
      | false =>
        have HBE := Lib.hid (show blkN F (n + 1) = blkN F n by rw [HBS.out, minH_no hh]; simp)
        clear hh
        go_wp2_with fail
        go_roundw
        case rel => exact ⟨n + 1, by omega, by go_num, HG.out, by rw [HBE.out]; exact HO.out⟩
        case measure => simp [intOf]; omega
      | true =>
        have HML := Lib.hid (minH_less hh)
        clear hh
        go_wp2_with fail
        obtain ⟨wo, rfl⟩ : ∃ w3 : World, w3 = wr := ⟨_, rfl⟩
        go_loopw [5, 6] (fun ls i wr2 => ∃ j : Nat, j ≤ 8 ∧ i = .int .i64 j ∧ wr2 = wo ∧ ls = .bool (lessN F n j)) (fun _ i _ => 8 - (intOf i).toNat)
        case atStart => exact ⟨0, by omega, rfl, rfl, rfl⟩
        case round =>
          obtain ⟨j, hj, rfl, rfl, rfl⟩ := hrel
          by_cases hjl : j < 8
          · have hj2 : (j : Int) < 8 := by omega
            have hbd := bits_digit n j hlt
            have z1 : (0 : Int) ≤ (j : Int) := by omega
            have z2 : (j : Int) ≤ 64 := by omega
            have z3 : IntKind.u64.wrap (j : Int) = (j : Int) := IntWalk.u64_in _ (by omega)
            have HLS := Lib.hid (lessN_succ F n j)
            cases htb : n.testBit j with
            | false =>
              rw [htb, if_neg (by decide)] at hbd
              have HLE := Lib.hid (show lessN F n (j + 1) = lessN F n j by rw [HLS.out, htb]; simp)
              clear htb
              go_wp2_with fail
              go_roundw
              case rel => exact ⟨j + 1, by omega, by go_num, by first | rfl | trivial, by rw [HLE.out]⟩
              case measure => simp [intOf]; omega
            | true =>
              rw [htb, if_pos rfl] at hbd
              have HSUB := Lib.hid (sub_pow2 hlt hjl htb)
              have hm2 : n - 2 ^ j < 256 := Nat.lt_of_le_of_lt (Nat.sub_le _ _) hlt
              have HTB := Lib.hid htb
              clear htb
              go_wp2_with fail
              rw [HSUB.out]
              refine r3hits_any F HFL.out (n - 2 ^ j) hm2 _ _ HVW.out _ ?_
              cases hh2 : hit F (n - 2 ^ j) with
              | false =>
                have HLE := Lib.hid (show lessN F n (j + 1) = lessN F n j by rw [HLS.out, hh2, Bool.and_false, Bool.not_false, Bool.and_true])
                clear hh2
                go_wp2_with fail
                go_roundw
                case rel => exact ⟨j + 1, by omega, by go_num, by first | rfl | trivial, by rw [HLE.out]⟩
                case measure => simp [intOf]; omega
              | true =>
                have HLE := Lib.hid (show lessN F n (j + 1) = false by rw [HLS.out, hh2, HTB.out]; simp)
                clear hh2
                go_wp2_with fail
                go_roundw
                case rel => exact ⟨j + 1, by omega, by go_num, by first | rfl | trivial, by rw [HLE.out]⟩
                case measure => simp [intOf]; omega
          · obtain rfl : j = 8 := by omega
            cases hml : lessN F n 8 with
            | false =>
              have HBE := Lib.hid (show blkN F (n + 1) = blkN F n by rw [HBS.out, HML.out, hml]; simp)
              clear hml
              go_wp2_with fail
              go_roundw
              case rel => exact ⟨n + 1, by omega, by go_num, HG.out, by rw [HBE.out]; exact HO.out⟩
              case measure => simp [intOf]; omega
            | true =>
              have HBE := Lib.hid (show nI (blkN F (n + 1)) = nI (blkN F n) ++ [(n : Int)] by rw [HBS.out, HML.out, hml, if_pos rfl, nI_snoc])
              clear hml
              go_wp2_with (at_builtin; refine wpList_app _ rfl (.tmp 35) (.tmp 37) 29 rfl w.heap.size 3 Tryz.underlying29 info_int rfl (by decide) (by decide) encI encI_len encI_one _ (nI (blkN F n)) rfl (((Grow.refl _).alloc _).owns HO.out) _ (n : Int) 1 rfl (newsG _ _ (by simp) (encI (n : Int)) _) HLB.out (by simp; omega) ?_; intro out2 w7 hown7 hgr7)
              have HG10 := Lib.hid (show Grow w w7 from grown_below HO.out hgr7 (Nat.le_refl _) (by simp; omega) (HG.out.alloc _))
              have HO7 := Lib.hid hown7
              clear hown7 hgr7
              go_roundw
              case rel => exact ⟨n + 1, by omega, by go_num, HG10.out, by rw [HBE.out]; exact HO7.out⟩
              case measure => simp [intOf]; omega
    · obtain rfl : n = 256 := by omega
      have HF := Lib.hid (fun V (h : wr.ownsRow w.heap.size 3 1 V (nI (blkN F 256)).length ((nI (blkN F 256)).flatMap encI)) => HR.out wr V HG.out (slc_of_owns encI_len h))
      go_wp2_with fail
      exact HF.out _ HO.out
end Go.Proofs.YtmlbgfnddgbpbaaGreat

namespace Go.Proofs.YtmlbgfnddgbpbaaGreat
namespace Bm
open Mk

theorem slice_set {p : List Ln} {s : List Int} {r : Int} (hp : p.length ≤ 8) : setB (sliceM p s r) = true := by
  rw [← setL_slice]
  refine setB_iff.2 ⟨fun n hn => ?_, asc_pw.2 (setL_asc _)⟩
  obtain ⟨i, rfl, hi⟩ := mem_setL.1 hn
  have := (List.getElem?_eq_some_iff.1 hi).1
  rw [marks_length] at this
  omega
theorem slcs_val {p : List Ln} {ts : List Tst} (hc : chkT p ts = 0) : valF (slcs p ts) = 0 := by
  obtain ⟨hp, ht⟩ := chkT_ok.1 hc
  have h8 := (valT_ok.1 ht).1
  have hl := slcs_len p ts
  refine valF_ok.2 ⟨by omega, fun l hl => ?_⟩
  unfold slcs at hl
  obtain ⟨t, _, rfl⟩ := List.mem_map.1 hl
  exact slice_set (valP_ok.1 hp).1
theorem slcs_length (p : List Ln) (ts : List Tst) : (slcs p ts).length = (whereL (fun t => !passM p t) ts).length := by
  unfold slcs whereL
  rw [List.length_map]
  have key : ∀ n, n ≤ ts.length → ((ts.take n).filter fun t => !passM p t).length = (whereN (fun t => !passM p t) ts n).length := by
    intro n
    induction n with
    | zero => intro _; rfl
    | succ n ih =>
      intro hn
      have ht : ts[n]? = some ts[n] := List.getElem?_eq_getElem (by omega)
      rw [whereN_succ ht, List.take_add_one, ht, List.filter_append, List.length_append, List.length_append, ih (by omega)]
      cases h : passM p ts[n] <;> simp [h]
  have := key ts.length (Nat.le_refl _)
  rw [List.take_length] at this
  exact this
theorem bk_val (f : List (List Int)) : valF (bkM f) = 0 := ord_val (blk_len _)
theorem lsP_le (F : List Nat) : (lsP F).length ≤ F.length := lsP_len F
theorem ls_val {f : List (List Int)} (h : valF f = 0) : valF (Ls.ord (lsP (f.map mask))) = 0 := by
  refine ord_val ?_
  have h1 := lsP_len (f.map mask)
  rw [List.length_map] at h1
  have := (valF_ok.1 h).1
  omega
theorem ord_hit {L : List Nat} (hl : ∀ x ∈ L, x < 256) (m : Nat) : hit ((Ls.ord L).map mask) m = hit L m := hit_ext (fun _ => Ls.ord_masks hl _) m
theorem blk_lt {F : List Nat} : ∀ x ∈ blk F, x < 256 := fun _ hx => (mem_blk.1 hx).1
theorem lsP_lt {F : List Nat} (hF : ∀ x ∈ F, x < 256) : ∀ x ∈ lsP F, x < 256 := fun x hx => hF x (mem_lsP.1 hx).1
/-- The blocker of the blocker is what is least. -/
theorem bk_bk {f : List (List Int)} (h : valF f = 0) : bkM (bkM f) = Ls.ord (lsP (f.map mask)) := by
  unfold bkM
  rw [blk_congr (ord_hit blk_lt)]
  refine Ls.ord_ext (blk_nodup _) (lsP_nodup _) (fun x => ?_) blk_lt
  rw [blk_blk (masks_lt h), mem_lsP]
/-- What is least has the same blocker. -/
theorem bk_ls {f : List (List Int)} (h : valF f = 0) : bkM (Ls.ord (lsP (f.map mask))) = bkM f := by
  unfold bkM
  rw [blk_congr (ord_hit (lsP_lt (masks_lt h))), blk_congr (hit_lst fun x => mem_lsP)]
theorem bk_mem {f : List (List Int)} {l : List Int} (hl : l ∈ bkM f) : ∃ x, x < 256 ∧ l = lst x ∧ mask l = x ∧ setB l = true ∧ Min (f.map mask) x := by
  obtain ⟨x, hx, rfl⟩ := Ls.mem_ord.1 hl
  obtain ⟨h1, h2⟩ := mem_blk.1 hx
  exact ⟨x, h1, rfl, mask_lst h1, setB_lst x, h2⟩
/-- Each set of the blocker hits. -/
theorem bk_hits {f : List (List Int)} (h : valF f = 0) {l : List Int} (hl : l ∈ bkM f) : hitsE f l = 0 ∧ hitsB f l = true := by
  obtain ⟨x, _, _, hm, hs, hmin⟩ := bk_mem hl
  have he : hitsE f l = 0 := by unfold hitsE; rw [if_pos h, hs]; rfl
  refine ⟨he, ?_⟩
  unfold hitsB
  rw [decide_eq_true he, hm, hmin.1]; rfl
theorem mn_hits {f : List (List Int)} (h : valF f = 0) (h0 : 0 < (bkM f).length) : hitsE f (mnF (bkM f)) = 0 ∧ hitsB f (mnF (bkM f)) = true := bk_hits h (mn_all (fun e => by rw [e] at h0; cases h0)).1
/-- No set that hits has fewer numbers than there are sets apart. -/
theorem apart_le {f : List (List Int)} {l : List Int} (hl : l ∈ bkM f) : (Apt.most (f.map mask) 0 0).length ≤ l.length := by
  obtain ⟨x, hx, rfl, _, _, hmin⟩ := bk_mem hl
  have hp := Apt.most_is (f.map mask) 0 0
  have h1 := Apt.hit_many _ x hx (fun v hv => ?_) hp.2
  · rwa [List.length_map] at h1
  · have := (hp.1 v hv).2.1
    rw [List.drop_zero] at this
    exact hit_iff.1 hmin.1 v this
/-- Lines that are to blame hit the slices. -/
theorem blm_hitsB {p : List Ln} {ts : List Tst} {lines : List Int} (hc : chkT p ts = 0) (hl : lnE p lines = 0) (hb : blm p ts lines = true) : hitsE (slcs p ts) lines = 0 ∧ hitsB (slcs p ts) lines = true := by
  have he : hitsE (slcs p ts) lines = 0 := by unfold hitsE; rw [if_pos (slcs_val hc), lnE_set (chkT_ok.1 hc).1 hl]; rfl
  refine ⟨he, ?_⟩
  unfold hitsB
  rw [decide_eq_true he, blm_hits hc hb]; rfl
/-- A set that hits has one of the blocker as its part. -/
theorem hit_part {f : List (List Int)} {l : List Int} (hs : setB l = true) (hh : hit (f.map mask) (mask l) = true) : ∃ d ∈ bkM f, ∀ x ∈ d, x ∈ l := by
  obtain ⟨h1, h2⟩ := set_mask hs
  obtain ⟨y, hy, hm⟩ := min_below (mask l) (mask l) (Nat.le_refl _) h1 hh
  have hy256 : y < 256 := by have := part_le hy; omega
  refine ⟨lst y, Ls.mem_ord.2 ⟨y, mem_blk.2 ⟨hy256, hm⟩, rfl⟩, fun x hx => ?_⟩
  obtain ⟨k, hk, rfl, hb⟩ := mem_mem.1 hx
  rw [← h2]
  exact mem_mem.2 ⟨k, hk, rfl, part_iff.1 hy k hb⟩
/-- A number alone hits exactly if it is in all. -/
theorem one_hits {f : List (List Int)} {n : Int} (h0 : 0 ≤ n) (h7 : n ≤ 7) : hit (f.map mask) (mask [n]) = (lst (cmn (f.map mask))).contains n := by
  obtain ⟨k, rfl⟩ : ∃ k : Nat, n = k := ⟨n.toNat, by omega⟩
  rw [Bool.eq_iff_iff, hit_iff, List.contains_iff_mem, mem_mem]
  have hb : ∀ j, (mask [(k : Int)]).testBit j = decide (k = j) := fun j => by rw [mask_bit]; simp
  constructor
  · intro hh
    refine ⟨k, by omega, rfl, ?_⟩
    rw [cmn_bit, decide_eq_true (show k < 8 by omega), Bool.true_and, List.all_eq_true]
    intro x hx
    obtain ⟨j, h1, h2⟩ := meet_iff.1 (hh x hx)
    rw [hb] at h2
    have := of_decide_eq_true h2
    subst this; exact h1
  · rintro ⟨j, hj, e, hbj⟩ x hx
    have : j = k := by omega
    subst this
    rw [cmn_bit, Bool.and_eq_true, List.all_eq_true] at hbj
    exact meet_iff.2 ⟨j, hbj.2 x hx, by rw [hb]; simp⟩
end Bm
end Go.Proofs.YtmlbgfnddgbpbaaGreat

namespace Go.Proofs.YtmlbgfnddgbpbaaGreat
open Go.RowKit
open Mk Bm

theorem bk_lenF {f : List (List Int)} (h : valF f = 0) : (f.map mask).length ≤ 1000 := by have := (valF_ok.1 h).1; rw [List.length_map]; omega
theorem blk_lenF (F : List Nat) : (blk F).length ≤ 1000 := by have := blk_len F; omega
set_option maxHeartbeats 4000000 in
theorem r3Blocker_any (f : List (List Int)) (v : Value) (w : World) (hf : FamAt w v f) (R : Ending → World → Prop) (hR : ∀ w' v, Grow w w' → FamAt w' v (bkO f) → R (.returned (.tuple #[v, .int .i64 (valF f)])) w') :
    Calls Tryz.prog 20 #[v] w R := by
  have HFM := Lib.hid hf
  unfold bkO at hR
  have HR := Lib.hid hR
  obtain ⟨e, he⟩ : ∃ e, valF f = e := ⟨_, rfl⟩
  rw [he] at HR
  have HE := Lib.hid he
  obtain ⟨a, c, rfl, h1, h2⟩ := hf.out
  clear hR hf
  by_cases h0 : e = 0
  · subst h0
    have HML := Lib.hid (masks_lt he)
    have HFLN := Lib.hid (bk_lenF he)
    obtain ⟨hl70, hall⟩ := valF_ok.1 he
    have HALL := Lib.hid hall
    clear he hall
    go_enter Tryz.func20, Tryz.ntmps20
    go_wp2_with fail
    refine r3Validate_any f _ _ HFM.out _ ?_
    intro w1 hg1
    rw [HE.out]
    have HG1 := Lib.hid hg1
    clear hg1
    go_wp2_with fail
    refine r3masks_any f _ _ (HFM.out.grow HG1.out) HALL.out hl70 _ ?_
    intro w3 v3 hg3 hv3
    have hv4 := hv3.slc encI_len
    have HV4 := Lib.hid hv4
    have HG3 := Lib.hid (HG1.out.trans hg3)
    obtain ⟨a3, c3, rfl, _⟩ := hv4
    clear hg3 hv3
    go_wp2_with fail
    refine r3blocker_any (f.map mask) HML.out _ _ HV4.out _ ?_
    intro w4 v4 hg4 hv4
    have HX4 := Lib.hid hv4
    have HG4 := Lib.hid (HG3.out.trans hg4)
    obtain ⟨a4, c4, rfl, _⟩ := hv4
    clear hg4
    go_wp2_with fail
    refine r3ordered_any (blk (f.map mask)) blk_lt (blk_lenF _) _ _ HX4.out _ ?_
    intro w5 v5 hg5 hv5
    have HF := Lib.hid (HR.out w5 v5 (HG4.out.trans hg5) (by rw [ifOK_ok]; exact hv5))
    clear hg5 hv5
    go_wp2_with fail
    exact HF.out
  · have t1 : (e != 0) = true := by simpa using h0
    have HF := Lib.hid (fun w' h => HR.out w' (.slice none 0 0) h (by rw [ifOK_err h0]; first | exact FamAt.nil _ | exact SlcAt.nil _ _ _))
    clear h0 he
    go_enter Tryz.func20, Tryz.ntmps20
    go_wp2_with fail
    refine r3Validate_any f _ _ HFM.out _ ?_
    intro w1 hg1
    rw [HE.out]
    have HF2 := Lib.hid (HF.out w1 hg1)
    clear hg1
    go_wp2_with fail
    exact HF2.out

set_option maxHeartbeats 4000000 in
theorem r3Common_any (f : List (List Int)) (v : Value) (w : World) (hf : FamAt w v f) (R : Ending → World → Prop) (hR : ∀ w' v, Grow w w' → IntsAt w' v (cmO f) → R (.returned (.tuple #[v, .int .i64 (valF f)])) w') :
    Calls Tryz.prog 41 #[v] w R := by
  have HFM := Lib.hid hf
  unfold cmO at hR
  have HR := Lib.hid hR
  obtain ⟨e, he⟩ : ∃ e, valF f = e := ⟨_, rfl⟩
  rw [he] at HR
  have HE := Lib.hid he
  obtain ⟨a, c, rfl, h1, h2⟩ := hf.out
  clear hR hf
  by_cases h0 : e = 0
  · subst h0
    have HML := Lib.hid (masks_lt he)
    have HFLN := Lib.hid (bk_lenF he)
    obtain ⟨hl70, hall⟩ := valF_ok.1 he
    have HALL := Lib.hid hall
    clear he hall
    go_enter Tryz.func41, Tryz.ntmps41
    go_wp2_with fail
    refine r3Validate_any f _ _ HFM.out _ ?_
    intro w1 hg1
    rw [HE.out]
    have HG1 := Lib.hid hg1
    clear hg1
    go_wp2_with fail
    refine r3masks_any f _ _ (HFM.out.grow HG1.out) HALL.out hl70 _ ?_
    intro w3 v3 hg3 hv3
    have hv4 := hv3.slc encI_len
    have HV4 := Lib.hid hv4
    have HG3 := Lib.hid (HG1.out.trans hg3)
    obtain ⟨a3, c3, rfl, _⟩ := hv4
    clear hg3 hv3
    obtain ⟨F, hF⟩ : ∃ F, f.map mask = F := ⟨_, rfl⟩
    rw [hF] at HML HR HFLN HV4 ⊢
    have hln := HFLN.out
    rw [nI_len] at HV4 ⊢
    clear hF
    go_wp2_with fail
    go_loopw [5, 7] (fun s i wr => ∃ k : Nat, k ≤ F.length ∧ i = .int .i64 k ∧ wr = w3 ∧ s = .int .i64 (cmn (F.take k) : Int)) (fun _ i _ => F.length - (intOf i).toNat)
    case atStart => exact ⟨0, Nat.zero_le _, rfl, rfl, rfl⟩
    case round =>
      obtain ⟨k, hk, rfl, rfl, rfl⟩ := hrel
      by_cases hlt : k < F.length
      · obtain ⟨x, hx⟩ : ∃ x, F[k]? = some x := ⟨_, List.getElem?_eq_getElem hlt⟩
        obtain ⟨b, o, rfl, hb, e0⟩ := ints_at HV4.out (nI_at hx)
        have hlt2 : (k : Int) < (F.length : Int) := by omega
        have hx256 := HML.out x (List.mem_of_getElem? hx)
        have HTK := Lib.hid (cmn_take hx)
        have hs256 : cmn (F.take k) < 256 := cmn_lt _
        have hbt := Mk.bits_and (cmn (F.take k)) x (by omega) (by omega)
        clear hx
        go_wp2_with fail
        go_roundw
        case rel => exact ⟨k + 1, by omega, by go_num, by first | rfl | trivial, by rw [HTK.out]⟩
        case measure => simp [intOf]; omega
      · have hkn : k = F.length := by omega
        subst hkn
        have HTL := Lib.hid (List.take_length (l := F))
        have hs256 : cmn F < 256 := by have := (show cmn (F.take F.length) < 256 from cmn_lt _); rwa [List.take_length] at this
        rw [HTL.out]
        go_wp2_with fail
        refine r3list_any (cmn F) hs256 _ _ ?_
        intro w5 v5 hg5 hv5
        have HF := Lib.hid (HR.out w5 v5 (HG3.out.trans hg5) (by rw [ifOK_ok]; exact hv5.slc encI_len))
        clear hg5 hv5
        go_wp2_with fail
        exact HF.out
  · have t1 : (e != 0) = true := by simpa using h0
    have HF := Lib.hid (fun w' h => HR.out w' (.slice none 0 0) h (by rw [ifOK_err h0]; first | exact FamAt.nil _ | exact SlcAt.nil _ _ _))
    clear h0 he
    go_enter Tryz.func41, Tryz.ntmps41
    go_wp2_with fail
    refine r3Validate_any f _ _ HFM.out _ ?_
    intro w1 hg1
    rw [HE.out]
    have HF2 := Lib.hid (HF.out w1 hg1)
    clear hg1
    go_wp2_with fail
    exact HF2.out

set_option maxHeartbeats 4000000 in
theorem r3Together_any (f : List (List Int)) (v : Value) (w : World) (hf : FamAt w v f) (R : Ending → World → Prop) (hR : ∀ w' v, Grow w w' → IntsAt w' v (toO f) → R (.returned (.tuple #[v, .int .i64 (valF f)])) w') :
    Calls Tryz.prog 43 #[v] w R := by
  have HFM := Lib.hid hf
  unfold toO at hR
  have HR := Lib.hid hR
  obtain ⟨e, he⟩ : ∃ e, valF f = e := ⟨_, rfl⟩
  rw [he] at HR
  have HE := Lib.hid he
  obtain ⟨a, c, rfl, h1, h2⟩ := hf.out
  clear hR hf
  by_cases h0 : e = 0
  · subst h0
    have HML := Lib.hid (masks_lt he)
    have HFLN := Lib.hid (bk_lenF he)
    obtain ⟨hl70, hall⟩ := valF_ok.1 he
    have HALL := Lib.hid hall
    clear he hall
    go_enter Tryz.func43, Tryz.ntmps43
    go_wp2_with fail
    refine r3Validate_any f _ _ HFM.out _ ?_
    intro w1 hg1
    rw [HE.out]
    have HG1 := Lib.hid hg1
    clear hg1
    go_wp2_with fail
    refine r3masks_any f _ _ (HFM.out.grow HG1.out) HALL.out hl70 _ ?_
    intro w3 v3 hg3 hv3
    have hv4 := hv3.slc encI_len
    have HV4 := Lib.hid hv4
    have HG3 := Lib.hid (HG1.out.trans hg3)
    obtain ⟨a3, c3, rfl, _⟩ := hv4
    clear hg3 hv3
    obtain ⟨F, hF⟩ : ∃ F, f.map mask = F := ⟨_, rfl⟩
    rw [hF] at HML HR HFLN HV4 ⊢
    have hln := HFLN.out
    rw [nI_len] at HV4 ⊢
    clear hF
    go_wp2_with fail
    go_loopw [5, 7] (fun s i wr => ∃ k : Nat, k ≤ F.length ∧ i = .int .i64 k ∧ wr = w3 ∧ s = .int .i64 (tog (F.take k) : Int)) (fun _ i _ => F.length - (intOf i).toNat)
    case atStart => exact ⟨0, Nat.zero_le _, rfl, rfl, rfl⟩
    case round =>
      obtain ⟨k, hk, rfl, rfl, rfl⟩ := hrel
      by_cases hlt : k < F.length
      · obtain ⟨x, hx⟩ : ∃ x, F[k]? = some x := ⟨_, List.getElem?_eq_getElem hlt⟩
        obtain ⟨b, o, rfl, hb, e0⟩ := ints_at HV4.out (nI_at hx)
        have hlt2 : (k : Int) < (F.length : Int) := by omega
        have hx256 := HML.out x (List.mem_of_getElem? hx)
        have HTK := Lib.hid (tog_take hx)
        have hs256 : tog (F.take k) < 256 := tog_lt fun x hx => HML.out x (List.mem_of_mem_take hx)
        have hbt := Mk.bits_or (tog (F.take k)) x hs256 hx256
        clear hx
        go_wp2_with fail
        go_roundw
        case rel => exact ⟨k + 1, by omega, by go_num, by first | rfl | trivial, by rw [HTK.out]⟩
        case measure => simp [intOf]; omega
      · have hkn : k = F.length := by omega
        subst hkn
        have HTL := Lib.hid (List.take_length (l := F))
        have hs256 : tog F < 256 := by have := (show tog (F.take F.length) < 256 from tog_lt fun x hx => HML.out x (List.mem_of_mem_take hx)); rwa [List.take_length] at this
        rw [HTL.out]
        go_wp2_with fail
        refine r3list_any (tog F) hs256 _ _ ?_
        intro w5 v5 hg5 hv5
        have HF := Lib.hid (HR.out w5 v5 (HG3.out.trans hg5) (by rw [ifOK_ok]; exact hv5.slc encI_len))
        clear hg5 hv5
        go_wp2_with fail
        exact HF.out
  · have t1 : (e != 0) = true := by simpa using h0
    have HF := Lib.hid (fun w' h => HR.out w' (.slice none 0 0) h (by rw [ifOK_err h0]; first | exact FamAt.nil _ | exact SlcAt.nil _ _ _))
    clear h0 he
    go_enter Tryz.func43, Tryz.ntmps43
    go_wp2_with fail
    refine r3Validate_any f _ _ HFM.out _ ?_
    intro w1 hg1
    rw [HE.out]
    have HF2 := Lib.hid (HF.out w1 hg1)
    clear hg1
    go_wp2_with fail
    exact HF2.out

end Go.Proofs.YtmlbgfnddgbpbaaGreat

namespace Go.Proofs.YtmlbgfnddgbpbaaGreat
open Go.RowKit
open Mk Bm

set_option maxHeartbeats 4000000 in
theorem r3CheckBlocker_any (f g : List (List Int)) (v u : Value) (w : World) (hf : FamAt w v f) (hg : FamAt w u g) (R : Ending → World → Prop) (hR : ∀ w', Grow w w' → R (.returned (.int .i64 (cbE f g))) w') :
    Calls Tryz.prog 47 #[v, u] w R := by
  have HFM := Lib.hid hf
  have HGM := Lib.hid hg
  unfold cbE at hR
  have HR := Lib.hid hR
  obtain ⟨e, he⟩ : ∃ e, valF f = e := ⟨_, rfl⟩
  obtain ⟨e', he'⟩ : ∃ e, valF g = e := ⟨_, rfl⟩
  rw [he, he'] at HR
  have HE := Lib.hid he
  have HE' := Lib.hid he'
  obtain ⟨a, c, rfl, h1, h2⟩ := hf.out
  obtain ⟨a', c', rfl, h1', h2'⟩ := hg.out
  clear hR hf hg he'
  by_cases h0 : e = 0
  · subst h0
    rw [if_pos rfl] at HR
    have HML := Lib.hid (masks_lt he)
    obtain ⟨hl70, hall⟩ := valF_ok.1 he
    have HALL := Lib.hid hall
    clear he hall
    by_cases h0' : e' = 0
    · subst h0'
      rw [if_pos rfl] at HR
      go_enter Tryz.func47, Tryz.ntmps47
      go_wp2_with fail
      refine r3Validate_any f _ _ HFM.out _ ?_
      intro w0 hg0
      rw [HE.out]
      have HG0 := Lib.hid hg0
      clear hg0
      go_wp2_with fail
      refine r3Validate_any g _ _ (HGM.out.grow HG0.out) _ ?_
      intro w1 hg1
      rw [HE'.out]
      have HG1 := Lib.hid (HG0.out.trans hg1)
      clear hg1
      go_wp2_with fail
      refine r3masks_any f _ _ (HFM.out.grow HG1.out) HALL.out hl70 _ ?_
      intro w3 v3 hg3 hv3
      have hv4 := hv3.slc encI_len
      have HV4 := Lib.hid hv4
      have HG3 := Lib.hid (HG1.out.trans hg3)
      obtain ⟨a3, c3, rfl, _⟩ := hv4
      clear hg3 hv3
      go_wp2_with fail
      refine r3blocker_any (f.map mask) HML.out _ _ HV4.out _ ?_
      intro w4 v4 hg4 hv4
      have HX4 := Lib.hid hv4
      have HG4 := Lib.hid (HG3.out.trans hg4)
      obtain ⟨a4, c4, rfl, _⟩ := hv4
      clear hg4
      go_wp2_with fail
      refine r3ordered_any (blk (f.map mask)) blk_lt (blk_lenF _) _ _ HX4.out _ ?_
      intro w5 v5 hg5 hv5
      have HG5 := Lib.hid (HG4.out.trans hg5)
      have hf5 : FamAt w5 v5 (bkM f) := hv5
      have HF5 := Lib.hid hf5
      obtain ⟨a5, c5, rfl, q51, q52⟩ := hf5.out
      clear hg5 hv5 hf5
      go_wp2_with fail
      refine sameF_any (bkM f) g _ _ _ HF5.out (HGM.out.grow HG5.out) _ ?_
      intro w6 hg6
      have HF := Lib.hid (HR.out w6 (HG5.out.trans hg6))
      clear hg6
      generalize decide (bkM f = g) = q at HF ⊢
      cases q <;> (go_wp2_with fail; exact HF.out)
    · rw [if_neg h0'] at HR
      have t1 : (e' != 0) = true := by simpa using h0'
      clear h0'
      go_enter Tryz.func47, Tryz.ntmps47
      go_wp2_with fail
      refine r3Validate_any f _ _ HFM.out _ ?_
      intro w0 hg0
      rw [HE.out]
      have HG0 := Lib.hid hg0
      clear hg0
      go_wp2_with fail
      refine r3Validate_any g _ _ (HGM.out.grow HG0.out) _ ?_
      intro w1 hg1
      rw [HE'.out]
      have HF := Lib.hid (HR.out w1 (HG0.out.trans hg1))
      clear hg1
      go_wp2_with fail
      exact HF.out
  · rw [if_neg h0] at HR
    have t1 : (e != 0) = true := by simpa using h0
    clear h0 he
    go_enter Tryz.func47, Tryz.ntmps47
    go_wp2_with fail
    refine r3Validate_any f _ _ HFM.out _ ?_
    intro w1 hg1
    rw [HE.out]
    have HF := Lib.hid (HR.out w1 hg1)
    clear hg1
    go_wp2_with fail
    exact HF.out
theorem lsD_lt {F : List Nat} (hF : ∀ x ∈ F, x < 256) : ∀ x ∈ lsD F F.length, x < 256 := fun x hx => hF x (mem_lsD.1 hx).1
theorem lsD_ord {F : List Nat} (hF : ∀ x ∈ F, x < 256) : Ls.ord (lsD F F.length) = Ls.ord (lsP F) := Ls.ord_ext (lsD_nodup F) (lsP_nodup F) (fun x => by rw [mem_lsD, mem_lsP]) (lsD_lt hF)
theorem lsD_len (F : List Nat) (n : Nat) : (lsD F n).length ≤ n := by
  unfold lsD
  rw [List.length_map]
  have := List.length_filter_le (fun i => keepD F i F.length) (List.range n)
  simpa using this
end Go.Proofs.YtmlbgfnddgbpbaaGreat

namespace Go.Proofs.YtmlbgfnddgbpbaaGreat
open Go.RowKit
open Mk Bm

theorem keepD_step {F : List Nat} {n k x y : Nat} (hx : F[n]? = some x) (hy : F[k]? = some y) : keepD F n (k + 1) = (keepD F n k && !badL n x k y) := by
  rw [keepD_succ, getD_of hx, getD_of hy]
theorem lsD_step {F : List Nat} {n x : Nat} (hx : F[n]? = some x) : lsD F (n + 1) = lsD F n ++ if keepD F n F.length then [x] else [] := by
  rw [lsD_succ, getD_of hx]
set_option maxRecDepth 100000 in
set_option maxHeartbeats 16000000 in
theorem r3Least_any (f : List (List Int)) (v : Value) (w : World) (hf : FamAt w v f) (R : Ending → World → Prop) (hR : ∀ w' v, Grow w w' → FamAt w' v (leO f) → R (.returned (.tuple #[v, .int .i64 (valF f)])) w') :
    Calls Tryz.prog 23 #[v] w R := by
  have HFM := Lib.hid hf
  unfold leO at hR
  have HR := Lib.hid hR
  obtain ⟨e, he⟩ : ∃ e, valF f = e := ⟨_, rfl⟩
  rw [he] at HR
  have HE := Lib.hid he
  obtain ⟨a, c, rfl, h1, h2⟩ := hf.out
  clear hR hf
  by_cases h0 : e = 0
  · subst h0
    have hml := masks_lt he
    have hlF : (f.map mask).length = f.length := List.length_map ..
    obtain ⟨hl70, hall⟩ := valF_ok.1 he
    have HALL := Lib.hid hall
    obtain ⟨F, hF⟩ : ∃ F, f.map mask = F := ⟨_, rfl⟩
    rw [hF] at hml HR hlF
    have HML := Lib.hid hml
    have HFE := Lib.hid hF
    have hF70 : F.length ≤ 70 := by omega
    clear he hall hml hF hlF
    go_enter Tryz.func23, Tryz.ntmps23
    go_wp2_with fail
    refine r3Validate_any f _ _ HFM.out _ ?_
    intro w1 hg1
    rw [HE.out]
    have HG1 := Lib.hid hg1
    clear hg1
    go_wp2_with fail
    refine r3masks_any f _ _ (HFM.out.grow HG1.out) HALL.out hl70 _ ?_
    intro w3 v3 hg3 hv3
    rw [HFE.out] at hv3
    have hv4 := hv3.slc encI_len
    have HG3 := Lib.hid (HG1.out.trans hg3)
    obtain ⟨a3, c3, rfl, jq⟩ := hv4
    have HV4 := Lib.hid (show IntsAt w3 (.slice a3 (nI F).length c3) (nI F) from ⟨a3, c3, rfl, jq⟩)
    rw [nI_len] at HV4 ⊢
    clear hg3 hv3 jq
    go_wp2_with fail
    go_loopw [6, 7, 8, 9] (fun out i _ _ wr => ∃ n : Nat, n ≤ F.length ∧ i = .int .i64 n ∧ Grow w3 wr ∧ wr.ownsRow w3.heap.size 3 1 out (nI (lsD F n)).length ((nI (lsD F n)).flatMap encI)) (fun _ i _ _ _ => F.length - (intOf i).toNat)
    case atStart => exact ⟨0, by omega, rfl, Grow.refl _, World.ownsRow_nil _ _ _ _⟩
    case round =>
      obtain ⟨n, hn, rfl, hg, how⟩ := hrel
      have HG := Lib.hid hg
      have HO := Lib.hid how
      have hzj := hg.sz
      clear hg how
      by_cases hlt : n < F.length
      · have hlt2 : (n : Int) < (F.length : Int) := by omega
        obtain ⟨x, hx⟩ : ∃ x, F[n]? = some x := ⟨_, List.getElem?_eq_getElem hlt⟩
        have HXX := Lib.hid hx
        have HLS := Lib.hid (lsD_step hx)
        have hx256 := HML.out x (List.mem_of_getElem? hx)
        clear hx
        go_wp2_with fail
        obtain ⟨wo, rfl⟩ : ∃ w3 : World, w3 = wr := ⟨_, rfl⟩
        go_loopw [8, 9] (fun ls i wr2 => ∃ k : Nat, k ≤ F.length ∧ i = .int .i64 k ∧ Grow wo wr2 ∧ ls = .bool (keepD F n k)) (fun _ i _ => F.length - (intOf i).toNat)
        case atStart => exact ⟨0, by omega, rfl, Grow.refl _, rfl⟩
        case round =>
          obtain ⟨k, hk, rfl, hgo, rfl⟩ := hrel
          have HGO := Lib.hid hgo
          have hzo := hgo.sz
          clear hgo
          have HV5 := Lib.hid (HV4.out.grow (HG.out.trans HGO.out))
          obtain ⟨b, o, hao, hb, e0⟩ := ints_at HV5.out (nI_at HXX.out)
          subst hao
          by_cases hkl : k < F.length
          · have hk2 : (k : Int) < (F.length : Int) := by omega
            obtain ⟨y, hy⟩ : ∃ x, F[k]? = some x := ⟨_, List.getElem?_eq_getElem hkl⟩
            obtain ⟨b', o', hbo, hb', e1⟩ := ints_at HV5.out (nI_at hy)
            cases hbo
            have hy256 := HML.out y (List.mem_of_getElem? hy)
            have HKS := Lib.hid (keepD_step HXX.out hy)
            have hand := Mk.bits_and y x (by omega) (by omega)
            clear hy
            by_cases hyx : y = x
            · subst hyx
              by_cases hki : k < n
              · have HKE := Lib.hid (show keepD F n (k + 1) = false by rw [HKS.out]; unfold badL; simp [hki])
                have t1 : ((y : Int) != (y : Int)) = false := by simp
                have t4 : ((y : Int) == (y : Int)) = true := by simp
                have t2 : decide ((k : Int) < (n : Int)) = true := decide_eq_true (by omega)
                have t3 : decide (k < n) = true := decide_eq_true hki
                go_wp2_with (go_quiet (fail))
                go_roundw
                case rel => exact ⟨k + 1, by omega, by go_num, HGO.out.drewN _, by rw [HKE.out]⟩
                case measure => simp [intOf]; omega
              · have HKE := Lib.hid (show keepD F n (k + 1) = keepD F n k by rw [HKS.out]; unfold badL; simp [hki])
                have t1 : ((y : Int) != (y : Int)) = false := by simp
                have t4 : ((y : Int) == (y : Int)) = true := by simp
                have t2 : decide ((k : Int) < (n : Int)) = false := decide_eq_false (by omega)
                have t3 : decide (k < n) = false := decide_eq_false hki
                go_wp2_with (go_quiet (fail))
                go_roundw
                case rel => exact ⟨k + 1, by omega, by go_num, HGO.out.drewN _, by rw [HKE.out]⟩
                case measure => simp [intOf]; omega
            · have d1 : ((y : Int) != (x : Int)) = true := bne_iff_ne.2 (by omega)
              have d4 : ((y : Int) == (x : Int)) = false := beq_eq_false_iff_ne.2 (by omega)
              by_cases hp : y &&& x = y
              · have HKE := Lib.hid (show keepD F n (k + 1) = false by rw [HKS.out]; unfold badL; simp [hyx, hp])
                rw [hp] at hand
                have d5 : ((y : Int) == (y : Int)) = true := by simp
                go_wp2_with (go_quiet (fail))
                go_roundw
                case rel => exact ⟨k + 1, by omega, by go_num, HGO.out.drewN _, by rw [HKE.out]⟩
                case measure => simp [intOf]; omega
              · have HKE := Lib.hid (show keepD F n (k + 1) = keepD F n k by rw [HKS.out]; unfold badL; simp [hyx, hp])
                obtain ⟨z, hz⟩ : ∃ z, y &&& x = z := ⟨_, rfl⟩
                rw [hz] at hand hp
                have d5 : ((z : Int) == (y : Int)) = false := beq_eq_false_iff_ne.2 (by omega)
                clear hz
                by_cases hki : k < n
                · have hki2 := hki
                  have t2 : decide ((k : Int) < (n : Int)) = true := decide_eq_true (by omega)
                  have t3 : decide (k < n) = true := decide_eq_true hki
                  go_wp2_with (go_quiet (fail))
                  go_roundw
                  case rel => exact ⟨k + 1, by omega, by go_num, HGO.out.drewN _, by rw [HKE.out]⟩
                  case measure => simp [intOf]; omega
                · have hki2 := hki
                  have t2 : decide ((k : Int) < (n : Int)) = false := decide_eq_false (by omega)
                  have t3 : decide (k < n) = false := decide_eq_false hki
                  go_wp2_with (go_quiet (fail))
                  go_roundw
                  case rel => exact ⟨k + 1, by omega, by go_num, HGO.out.drewN _, by rw [HKE.out]⟩
                  case measure => simp [intOf]; omega
          · have hkn : k = F.length := by omega
            subst hkn
            have HGN := Lib.hid (HG.out.trans HGO.out)
            have HON := Lib.hid (HGO.out.owns HO.out)
            have HLL := Lib.hid (show (nI (lsD F n)).length < 100000000000 by rw [nI_len]; have := lsD_len F n; omega)
            cases hkd : keepD F n F.length with
            | false =>
              have HBE := Lib.hid (show lsD F (n + 1) = lsD F n by rw [HLS.out, hkd]; simp)
              clear hkd
              go_wp2_with fail
              go_roundw
              case rel => exact ⟨n + 1, by omega, by go_num, HGN.out, by rw [HBE.out]; exact HON.out⟩
              case measure => simp [intOf]; omega
            | true =>
              have HBE := Lib.hid (show nI (lsD F (n + 1)) = nI (lsD F n) ++ [(x : Int)] by rw [HLS.out, hkd, if_pos rfl, nI_snoc])
              clear hkd
              go_wp2_with (at_builtin; refine wpList_app _ rfl (.tmp 71) (.tmp 76) 29 rfl w3.heap.size 3 Tryz.underlying29 info_int rfl (by decide) (by decide) encI encI_len encI_one _ (nI (lsD F n)) rfl (((Grow.refl _).alloc _).owns HON.out) _ (x : Int) 1 rfl (newsG _ _ (by simp) (encI (x : Int)) _) HLL.out (by simp; omega) ?_; intro out2 w7 hown7 hgr7)
              have HG10 := Lib.hid (show Grow w3 w7 from grown_below HON.out hgr7 (Nat.le_refl _) (by simp; omega) (HGN.out.alloc _))
              have HO7 := Lib.hid hown7
              clear hown7 hgr7
              go_roundw
              case rel => exact ⟨n + 1, by omega, by go_num, HG10.out, by rw [HBE.out]; exact HO7.out⟩
              case measure => simp [intOf]; omega
      · have hnn : n = F.length := by omega
        subst hnn
        have hsl := slc_of_owns encI_len HO.out
        have HSL := Lib.hid hsl
        have HGN := Lib.hid (HG3.out.trans HG.out)
        have HOE := Lib.hid (lsD_ord HML.out)
        obtain ⟨a6, c6, hve, _⟩ := hsl
        subst hve
        go_wp2_with fail
        refine r3ordered_any (lsD F F.length) (lsD_lt HML.out) (by have := lsD_len F F.length; omega) _ _ HSL.out _ ?_
        intro w5 v5 hg5 hv5
        rw [HOE.out] at hv5
        have HF := Lib.hid (HR.out w5 v5 (HGN.out.trans hg5) (by rw [ifOK_ok]; exact hv5))
        clear hg5 hv5
        go_wp2_with fail
        exact HF.out
  · have t1 : (e != 0) = true := by simpa using h0
    have HF := Lib.hid (fun w' h => HR.out w' (.slice none 0 0) h (by rw [ifOK_err h0]; exact FamAt.nil _))
    clear h0 he
    go_enter Tryz.func23, Tryz.ntmps23
    go_wp2_with fail
    refine r3Validate_any f _ _ HFM.out _ ?_
    intro w1 hg1
    rw [HE.out]
    have HF2 := Lib.hid (HF.out w1 hg1)
    clear hg1
    go_wp2_with fail
    exact HF2.out
end Go.Proofs.YtmlbgfnddgbpbaaGreat

namespace Go.Proofs.YtmlbgfnddgbpbaaGreat
open Go.RowKit
open Mk Bm

/-- The place of the first one of the smallest of the first k sets. -/
def BestAt (M : List (List Int)) (k : Nat) (v : Value) : Prop := (k = 0 ∧ v = .int .i64 (-1)) ∨ ∃ b : Nat, 0 < k ∧ v = .int .i64 (b : Int) ∧ M[b]? = some (mnF (M.take k))
set_option maxRecDepth 100000 in
set_option maxHeartbeats 8000000 in
theorem r3First_any (f : List (List Int)) (v : Value) (w : World) (hf : FamAt w v f) (R : Ending → World → Prop) (hR : ∀ w' v, Grow w w' → IntsAt w' v (fsO f) → R (.returned (.tuple #[v, .bool (fsB f), .int .i64 (valF f)])) w') :
    Calls Tryz.prog 53 #[v] w R := by
  have HFM := Lib.hid hf
  unfold fsO fsB at hR
  have HR := Lib.hid hR
  obtain ⟨e, he⟩ : ∃ e, valF f = e := ⟨_, rfl⟩
  rw [he] at HR
  have HE := Lib.hid he
  obtain ⟨a, c, rfl, h1, h2⟩ := hf.out
  clear hR hf
  by_cases h0 : e = 0
  · subst h0
    have HML := Lib.hid (masks_lt he)
    obtain ⟨hl70, hall⟩ := valF_ok.1 he
    have HALL := Lib.hid hall
    clear he hall
    go_enter Tryz.func53, Tryz.ntmps53
    go_wp2_with fail
    refine r3Validate_any f _ _ HFM.out _ ?_
    intro w1 hg1
    rw [HE.out]
    have HG1 := Lib.hid hg1
    clear hg1
    go_wp2_with fail
    refine r3masks_any f _ _ (HFM.out.grow HG1.out) HALL.out hl70 _ ?_
    intro w3 v3 hg3 hv3
    have hv4 := hv3.slc encI_len
    have HV4 := Lib.hid hv4
    have HG3 := Lib.hid (HG1.out.trans hg3)
    obtain ⟨a3, c3, rfl, _⟩ := hv4
    clear hg3 hv3
    go_wp2_with fail
    refine r3blocker_any (f.map mask) HML.out _ _ HV4.out _ ?_
    intro w4 v4 hg4 hv4
    have HX4 := Lib.hid hv4
    have HG4 := Lib.hid (HG3.out.trans hg4)
    obtain ⟨a4, c4, rfl, _⟩ := hv4
    clear hg4
    go_wp2_with fail
    refine r3ordered_any (blk (f.map mask)) blk_lt (blk_lenF _) _ _ HX4.out _ ?_
    intro w5 v5 hg5 hv5
    have hl5 : (bkM f).length ≤ 1000 := by unfold bkM; rw [Ls.ord_len]; exact blk_lenF _
    obtain ⟨M, hM⟩ : ∃ M, bkM f = M := ⟨_, rfl⟩
    have hf5 : FamAt w5 v5 M := hM ▸ hv5
    rw [hM] at HR hl5
    have HG5 := Lib.hid (HG4.out.trans hg5)
    have HF5 := Lib.hid hf5
    obtain ⟨a5, c5, rfl, q51, q52⟩ := hf5.out
    clear hg5 hv5 hf5 hM
    go_wp2_with fail
    go_loopw [7, 8] (fun best i wr => ∃ k : Nat, k ≤ M.length ∧ i = .int .i64 k ∧ Grow w5 wr ∧ BestAt M k best) (fun _ i _ => M.length - (intOf i).toNat)
    case atStart => exact ⟨0, Nat.zero_le _, rfl, Grow.refl _, .inl ⟨rfl, rfl⟩⟩
    case round =>
      obtain ⟨k, hk, rfl, hg, hba⟩ := hrel
      have HG := Lib.hid hg
      have HF6 := Lib.hid (HF5.out.grow hg)
      have HGF := Lib.hid (HG5.out.trans hg)
      clear hg
      by_cases hlt : k < M.length
      · have hlt2 : (k : Int) < (M.length : Int) := by omega
        obtain ⟨y, hy⟩ : ∃ l, M[k]? = some l := ⟨_, List.getElem?_eq_getElem hlt⟩
        obtain ⟨b', o', ta, tc, hoa, hb', e1, hi⟩ := fam_at HF6.out hy
        subst hoa
        have HY := Lib.hid hy
        clear hy hi
        rcases hba with ⟨rfl, rfl⟩ | ⟨b, hk0, rfl, hb⟩
        · have HBN := Lib.hid (show BestAt M 1 (.int .i64 ((0 : Nat) : Int)) from .inr ⟨0, by omega, rfl, by rw [HY.out, mn_one HY.out]⟩)
          have t1 : decide ((-1 : Int) < 0) = true := by decide
          go_wp2_with (go_quiet (fail))
          go_roundw
          case rel => exact ⟨1, by omega, by first | rfl | go_num, HG.out.drewN _, HBN.out⟩
          case measure => simp [intOf]; omega
        · obtain ⟨m, hm⟩ : ∃ m, mnF (M.take k) = m := ⟨_, rfl⟩
          rw [hm] at hb
          have HMS := Lib.hid (mn_step (by omega) HY.out)
          have HM := Lib.hid hm
          have HB := Lib.hid hb
          have hbl : b < M.length := (List.getElem?_eq_some_iff.1 hb).1
          obtain ⟨b2, o2, ta2, tc2, hoa2, hb2, e2, hi2⟩ := fam_at HF6.out hb
          cases hoa2
          have hbl2 : (b : Int) < (M.length : Int) := by omega
          have hb0 : (0 : Int) ≤ (b : Int) := by omega
          have hbn : ¬ (b : Int) < 0 := by omega
          have t1 : decide ((b : Int) < 0) = false := decide_eq_false hbn
          clear hi2 hm hb
          by_cases hlen : y.length < m.length
          · have t2 : decide ((y.length : Int) < (m.length : Int)) = true := decide_eq_true (by omega)
            have t3 : decide (y.length < m.length) = true := decide_eq_true hlen
            have HBN := Lib.hid (show BestAt M (k + 1) (.int .i64 (k : Int)) from .inr ⟨k, by omega, rfl, by rw [HMS.out, HM.out, if_pos hlen]; exact HY.out⟩)
            go_wp2_with (go_quiet (fail))
            go_roundw
            case rel => exact ⟨k + 1, by omega, by go_num, HG.out.drewN _, HBN.out⟩
            case measure => simp [intOf]; omega
          · have t2 : decide ((y.length : Int) < (m.length : Int)) = false := decide_eq_false (by omega)
            have t3 : decide (y.length < m.length) = false := decide_eq_false hlen
            have HBN := Lib.hid (show BestAt M (k + 1) (.int .i64 (b : Int)) from .inr ⟨b, by omega, rfl, by rw [HMS.out, HM.out, if_neg hlen]; exact HB.out⟩)
            go_wp2_with (go_quiet (fail))
            go_roundw
            case rel => exact ⟨k + 1, by omega, by go_num, HG.out.drewN _, HBN.out⟩
            case measure => simp [intOf]; omega
      · have hkn : k = M.length := by omega
        have hlt2 : ¬ (k : Int) < (M.length : Int) := by omega
        rcases hba with ⟨h0, rfl⟩ | ⟨b, hk0, rfl, hb⟩
        · have hMe : M = [] := List.eq_nil_of_length_eq_zero (by omega)
          have HF := Lib.hid (show R (.returned (.tuple #[.slice none 0 0, .bool false, .int .i64 0])) wr from by
            have h := HR.out wr (.slice none 0 0) HGF.out (by rw [ifOK_ok, hMe]; exact SlcAt.nil _ _ _)
            rw [hMe] at h
            exact h)
          have t1 : decide ((-1 : Int) < 0) = true := by decide
          clear hMe h0 hkn
          go_wp2_with fail
          first | exact HF.out | exact bodyPost_ret (by simp [results, Tryz.results53, go_sem]) rfl HF.out
        · rw [hkn, List.take_length] at hb
          obtain ⟨b2, o2, ta2, tc2, hoa2, hb2, e2, hi2⟩ := fam_at HF6.out hb
          subst hoa2
          have hbl : b < M.length := (List.getElem?_eq_some_iff.1 hb).1
          have hbl2 : (b : Int) < (M.length : Int) := by omega
          have hbn : ¬ (b : Int) < 0 := by omega
          have HF := Lib.hid (show R (.returned (.tuple #[.slice ta2 (mnF M).length tc2, .bool true, .int .i64 0])) wr from by
            have h := HR.out wr _ HGF.out (by rw [ifOK_ok]; exact hi2)
            rw [decide_eq_true (show 0 < M.length by omega)] at h
            exact h)
          clear hi2 hb hkn
          go_wp2_with fail
          first | exact HF.out | exact bodyPost_ret (by simp [results, Tryz.results53, go_sem]) rfl HF.out
  · have t1 : (e != 0) = true := by simpa using h0
    have HF := Lib.hid (fun w' h => show R (.returned (.tuple #[.slice none 0 0, .bool false, .int .i64 e])) w' from by
      have h2 := HR.out w' (.slice none 0 0) h (by rw [ifOK_err h0]; exact SlcAt.nil _ _ _)
      rw [decide_eq_false h0] at h2; exact h2)
    clear h0 he
    go_enter Tryz.func53, Tryz.ntmps53
    go_wp2_with fail
    refine r3Validate_any f _ _ HFM.out _ ?_
    intro w1 hg1
    rw [HE.out]
    have HF2 := Lib.hid (HF.out w1 hg1)
    clear hg1
    go_wp2_with fail
    first | exact HF2.out | exact bodyPost_ret (by simp [results, Tryz.results53, go_sem]) rfl HF2.out
set_option maxHeartbeats 4000000 in
theorem r3Smallest_any (f : List (List Int)) (v : Value) (w : World) (hf : FamAt w v f) (R : Ending → World → Prop) (hR : ∀ w', Grow w w' → R (.returned (.tuple #[.int .i64 ((fsO f).length : Int), .bool (fsB f), .int .i64 (valF f)])) w') :
    Calls Tryz.prog 51 #[v] w R := by
  have HFM := Lib.hid hf
  have HR := Lib.hid hR
  obtain ⟨a, c, rfl, h1, h2⟩ := hf.out
  clear hR hf
  go_enter Tryz.func51, Tryz.ntmps51
  go_wp2_with fail
  refine r3First_any f _ _ HFM.out _ ?_
  intro w1 v1 hg1 hv1
  have HF := Lib.hid (HR.out w1 hg1)
  obtain ⟨a1, c1, rfl, _⟩ := hv1
  clear hg1
  generalize fsB f = q1 at HF ⊢
  generalize valF f = q2 at HF ⊢
  go_wp2_with fail
  first | exact HF.out | exact bodyPost_ret (by simp [results, Tryz.results51, go_sem]) rfl HF.out
end Go.Proofs.YtmlbgfnddgbpbaaGreat
