/- The walks of the functions that say whether a list has each register once. -/
import Derived.Test.YtmaphlbmmemgcaaPlN
import Derived.Test.YtmaphlbmmemgcaaPlM
import Derived.Test.YtmaphlbmmemgcaaIndA
import Derived.Test.YtmaphlbmmemgcaaHelp
import Derived.Test.YtmaphlbmmemgcaaRefA
namespace Go.Proofs.Ytmaphlbmmemgcaa
open Go.RowKit

theorem isOrd_len {ot : List Int} (h : ot.length ≠ 4) : isOrd ot = false := by unfold isOrd; rw [decide_eq_false h]; rfl
theorem isOrd_miss {ot : List Int} {r : Int} (hr : r = 0 ∨ r = 1 ∨ r = 2 ∨ r = 3) (h : ot.contains r = false) : isOrd ot = false := by
  cases e : isOrd ot with
  | false => rfl
  | true =>
    unfold isOrd at e
    simp only [Bool.and_eq_true, List.all_eq_true] at e
    have := e.2 r (by simp; exact hr)
    rw [h] at this; cases this
theorem isOrd_full {ot : List Int} (hl : ot.length = 4) (h : ∀ r : Nat, r < 4 → ot.contains (r : Int) = true) : isOrd ot = true := by
  unfold isOrd
  rw [decide_eq_true hl, Bool.true_and, List.all_eq_true]
  intro r hr
  simp at hr
  rcases hr with rfl | rfl | rfl | rfl
  · exact h 0 (by omega)
  · exact h 1 (by omega)
  · exact h 2 (by omega)
  · exact h 3 (by omega)

set_option maxHeartbeats 2000000 in
theorem isOrder_any (ot : List Int) (v : Value) (w : World) (ht : IntsAt w v ot) (R : Ending → World → Prop) (hR : R (.returned (.bool (isOrd ot))) w) :
    Calls Try.prog 87 #[v] w R := by
  have HT := Lib.hid ht
  have HR := Lib.hid hR
  obtain ⟨a, c, rfl, h1, h2, _⟩ := ht
  clear hR
  by_cases hl : ot.length = 4
  rotate_left
  · have hb : ((ot.length : Int) == 4) = false := by simp; omega
    have hb2 : ((ot.length : Int) != 4) = true := by simp; omega
    rw [isOrd_len hl] at HR
    clear hl
    go_enter Try.func87, Try.ntmps87
    go_wp2_with fail
    exact HR.out
  have hb : ((ot.length : Int) == 4) = true := by simp; omega
  have hb2 : ((ot.length : Int) != 4) = false := by simp; omega
  have HL := Lib.hid hl
  clear hl
  go_enter Try.func87, Try.ntmps87
  go_wp2_with fail
  go_loopw [7] (fun i wr => ∃ k : Nat, k ≤ 4 ∧ i = .int .i64 k ∧ wr = w ∧ ∀ r : Nat, r < k → ot.contains (r : Int) = true) (fun i _ => 4 - (intOf i).toNat)
  case atStart => exact ⟨0, by omega, rfl, rfl, fun r hr => by omega⟩
  case round =>
    obtain ⟨k, hk, rfl, rfl, hall⟩ := hrel
    have HA := Lib.hid hall
    clear hall
    by_cases hlt : k < 4
    · cases hc : ot.contains (k : Int) with
      | true =>
        have HC := Lib.hid hc
        clear hc
        go_wp2_with fail
        refine containsI_any ot _ _ _ HT.out _ ?_
        rw [HC.out]
        go_wp2_with fail
        go_roundw
        case rel =>
          refine ⟨k + 1, by omega, by go_num, trivial, fun r hr => ?_⟩
          by_cases e : r = k
          · subst e; exact HC.out
          · exact HA.out r (by omega)
        case measure => simp [intOf]; omega
      | false =>
        have HC := Lib.hid hc
        have hm := isOrd_miss (r := (k : Int)) (by omega) hc
        rw [hm] at HR
        clear hc hm
        go_wp2_with fail
        refine containsI_any ot _ _ _ HT.out _ ?_
        rw [HC.out]
        go_wp2_with fail
        exact HR.out
    · have hf := isOrd_full HL.out fun r hr => HA.out r (by omega)
      rw [hf] at HR
      clear hf
      go_wp2_with fail
      exact HR.out

/-! ### The document's way -/
theorem ord_bad {ot : List Int} {k : Nat} {x : Int} (hx : ot[k]? = some x) (h : inB x 0 3 = false) : isOrd ot = false := by
  cases e : isOrd ot with
  | false => rfl
  | true =>
    have hp := isOrd_perms e
    have key : ∀ ot ∈ perms4, ∀ x ∈ ot, inB x 0 3 = true := by decide
    rw [key ot hp x (List.mem_of_getElem? hx)] at h; cases h
theorem ord_twice {ot : List Int} {j k : Nat} {x : Int} (hj : ot[j]? = some x) (hk : ot[k]? = some x) (h : j ≠ k) : isOrd ot = false := by
  cases e : isOrd ot with
  | false => rfl
  | true =>
    have hp := isOrd_perms e
    have key : ∀ ot ∈ perms4, ot.length = 4 ∧ ∀ j < 4, ∀ k < 4, j ≠ k → ot.getD j 0 ≠ ot.getD k 0 := by decide
    obtain ⟨k1, k2⟩ := key ot hp
    have h1 := (List.getElem?_eq_some_iff.1 hj).1
    have h2 := (List.getElem?_eq_some_iff.1 hk).1
    have := k2 j (by omega) k (by omega) h
    rw [List.getD_eq_getElem?_getD, List.getD_eq_getElem?_getD, hj, hk] at this
    exact absurd rfl this
theorem ord_good {ot : List Int} (hl : ot.length = 4) (hr : ∀ (j : Nat) (x : Int), ot[j]? = some x → 0 ≤ x ∧ x ≤ 3) (hd : ∀ (j k : Nat) (x : Int), ot[j]? = some x → ot[k]? = some x → j = k) : isOrd ot = true := by
  match ot, hl with
  | [a, b, c, d], _ =>
    obtain ⟨a0, a3⟩ := hr 0 a rfl
    obtain ⟨b0, b3⟩ := hr 1 b rfl
    obtain ⟨c0, c3⟩ := hr 2 c rfl
    obtain ⟨d0, d3⟩ := hr 3 d rfl
    have ab : a ≠ b := fun e => by have := hd 0 1 a rfl (by rw [e]; rfl); omega
    have ac : a ≠ c := fun e => by have := hd 0 2 a rfl (by rw [e]; rfl); omega
    have ad : a ≠ d := fun e => by have := hd 0 3 a rfl (by rw [e]; rfl); omega
    have bc : b ≠ c := fun e => by have := hd 1 2 b rfl (by rw [e]; rfl); omega
    have bd : b ≠ d := fun e => by have := hd 1 3 b rfl (by rw [e]; rfl); omega
    have cd : c ≠ d := fun e => by have := hd 2 3 c rfl (by rw [e]; rfl); omega
    have ha : a = 0 ∨ a = 1 ∨ a = 2 ∨ a = 3 := by omega
    have hb : b = 0 ∨ b = 1 ∨ b = 2 ∨ b = 3 := by omega
    have hc : c = 0 ∨ c = 1 ∨ c = 2 ∨ c = 3 := by omega
    have hd' : d = 0 ∨ d = 1 ∨ d = 2 ∨ d = 3 := by omega
    clear hr hd a0 a3 b0 b3 c0 c3 d0 d3
    rcases ha with rfl | rfl | rfl | rfl <;> rcases hb with rfl | rfl | rfl | rfl <;> (first | exact absurd rfl ab | skip) <;> rcases hc with rfl | rfl | rfl | rfl <;> (first | exact absurd rfl ac | exact absurd rfl bc | skip) <;> rcases hd' with rfl | rfl | rfl | rfl <;> first | exact absurd rfl ad | exact absurd rfl bd | exact absurd rfl cd | decide
/-- The registers that were met among the first k. -/
def seenM (ot : List Int) : Nat → Ms
  | 0 => ⟨false, false, false, false⟩
  | k + 1 => (seenM ot k).set (ot.getD k 0) true
theorem Ms.get_set (m : Ms) (r q : Int) (x : Bool) (r0 : 0 ≤ r) (r3 : r ≤ 3) (q0 : 0 ≤ q) (q3 : q ≤ 3) : (m.set r x).get q = if q = r then x else m.get q := by
  have hr : r = 0 ∨ r = 1 ∨ r = 2 ∨ r = 3 := by omega
  have hq : q = 0 ∨ q = 1 ∨ q = 2 ∨ q = 3 := by omega
  rcases hr with rfl | rfl | rfl | rfl <;> rcases hq with rfl | rfl | rfl | rfl <;> rfl
theorem seenM_get {ot : List Int} : ∀ k, (∀ j, j < k → 0 ≤ ot.getD j 0 ∧ ot.getD j 0 ≤ 3) → ∀ q, 0 ≤ q → q ≤ 3 → ((seenM ot k).get q = true ↔ ∃ j, j < k ∧ ot.getD j 0 = q)
  | 0, _, q, q0, q3 => by
    have hq : q = 0 ∨ q = 1 ∨ q = 2 ∨ q = 3 := by omega
    constructor
    · intro h; rcases hq with rfl | rfl | rfl | rfl <;> cases h
    · rintro ⟨j, hj, _⟩; omega
  | k + 1, h, q, q0, q3 => by
    obtain ⟨r0, r3⟩ := h k (by omega)
    have ih := seenM_get k (fun j hj => h j (by omega)) q q0 q3
    rw [seenM, Ms.get_set _ _ _ _ r0 r3 q0 q3]
    by_cases e : q = ot.getD k 0
    · rw [if_pos e]
      exact ⟨fun _ => ⟨k, by omega, e.symm⟩, fun _ => rfl⟩
    · rw [if_neg e, ih]
      constructor
      · rintro ⟨j, hj, he⟩; exact ⟨j, by omega, he⟩
      · rintro ⟨j, hj, he⟩
        by_cases hjk : j = k
        · subst hjk; exact absurd he.symm e
        · exact ⟨j, by omega, he⟩

set_option maxRecDepth 100000 in
set_option maxHeartbeats 4000000 in
theorem rIsOrder_any (ot : List Int) (v : Value) (w : World) (ht : IntsAt w v ot) (R : Ending → World → Prop) (hR : ∀ w', Grow w w' → R (.returned (.bool (isOrd ot))) w') :
    Calls Try.prog 88 #[v] w R := by
  have HT := Lib.hid ht
  have HR := Lib.hid hR
  obtain ⟨a, c, rfl, h1, h2, _⟩ := ht
  clear hR
  by_cases hl : ot.length = 4
  rotate_left
  · have hb : ((ot.length : Int) == 4) = false := by simp; omega
    have hb2 : ((ot.length : Int) != 4) = true := by simp; omega
    rw [isOrd_len hl] at HR
    clear hl
    go_enter Try.func88, Try.ntmps88
    go_wp2_with fail
    exact HR.out _ (Grow.refl _)
  have hb : ((ot.length : Int) == 4) = true := by simp; omega
  have hb2 : ((ot.length : Int) != 4) = false := by simp; omega
  have HL := Lib.hid hl
  have hmk : ∀ W, (Instr.makeSlice 88 (.int .i64 4) (.int .i64 4)).run Try.prog W = .ok (.slice (some ⟨W.heap.size, 0, none⟩) 4 4) (W.alloc (.cells #[.bool false, .bool false, .bool false, .bool false] 4)) := fun W => by kernel_rfl
  clear hl
  go_enter Try.func88, Try.ntmps88
  go_wp2_with fail
  clear hmk
  have hi0 : (w.alloc (.cells #[.bool false, .bool false, .bool false, .bool false] 4)).heap[w.heap.size]? = some (.cells (arrM (seenM ot 0)) 4 (0, 0)) := heap_alloc_new w _
  have HI0 := Lib.hid hi0
  clear hi0
  go_loopw [4] (fun i wr => ∃ k : Nat, k ≤ 4 ∧ i = .int .i64 k ∧ Grow w wr ∧ wr.heap[w.heap.size]? = some (.cells (arrM (seenM ot k)) 4 (0, 0)) ∧ (∀ j, j < k → 0 ≤ ot.getD j 0 ∧ ot.getD j 0 ≤ 3) ∧ ∀ j i, j < i → i < k → ot.getD j 0 ≠ ot.getD i 0) (fun i _ => 4 - (intOf i).toNat)
  case atStart => exact ⟨0, by omega, rfl, (Grow.refl _).alloc _, HI0.out, fun j hj => by omega, fun j i _ hi => by omega⟩
  case round =>
    obtain ⟨k, hk, rfl, hg, hi, hrg, hds⟩ := hrel
    have HG := Lib.hid hg
    have HI := Lib.hid hi
    have HRG := Lib.hid hrg
    have HDS := Lib.hid hds
    have hzb := lt_of_block hi
    clear hg hi hrg hds
    by_cases hlt : k < 4
    · obtain ⟨x, hx⟩ : ∃ x, ot[k]? = some x := ⟨_, List.getElem?_eq_getElem (by have := HL.out; omega)⟩
      obtain ⟨tb, to_, rfl, htb, ex⟩ := ints_at (HT.out.grow HG.out) hx
      have hdx : ot.getD k 0 = x := by rw [List.getD_eq_getElem?_getD, hx]; rfl
      have hkl : k < ot.length := by have := HL.out; omega
      have HX := Lib.hid hx
      have HDX := Lib.hid hdx
      clear hx hdx
      cases hin : inB x 0 3 with
      | false =>
        rw [ord_bad HX.out hin] at HR
        have HIN := Lib.hid hin
        clear hin
        go_wp2_with fail
        refine risRegister_any x _ _ ?_
        rw [HIN.out]
        go_wp2_with fail
        exact HR.out _ HG.out
      | true =>
        have HIN := Lib.hid hin
        obtain ⟨x0, x3⟩ := inB_true.1 hin
        have x4 : x < 4 := by omega
        have cx := arrM_cell HI.out x x0 x3
        have zx := arrM_free HI.out x.toNat
        have hsg := seenM_get (ot := ot) k HRG.out x x0 x3
        have HSG := Lib.hid hsg
        clear hin hsg
        cases hs : (seenM ot k).get x with
        | true =>
          obtain ⟨j, hj, he⟩ := HSG.out.1 hs
          have hjx : ot[j]? = some x := by
            have hjl : j < ot.length := by omega
            rw [List.getD_eq_getElem?_getD, List.getElem?_eq_getElem hjl] at he
            rw [List.getElem?_eq_getElem hjl]; simpa using he
          rw [ord_twice hjx HX.out (by omega)] at HR
          rw [hs] at cx
          clear hs he hjx zx
          go_wp2_with fail
          refine risRegister_any x _ _ ?_
          rw [HIN.out]
          go_wp2_with fail
          exact HR.out _ HG.out
        | false =>
          have HS := Lib.hid hs
          rw [hs] at cx
          clear hs
          go_wp2_with fail
          refine risRegister_any x _ _ ?_
          rw [HIN.out]
          go_wp2_with fail
          go_roundw
          case rel =>
            refine ⟨k + 1, by omega, by go_num, Below.setCell HG.out (Nat.le_refl _) _, ?_, ?_, ?_⟩
            · rw [seenM, HDX.out]; exact arrM_set HI.out x true x0 x3
            · intro j hj
              by_cases e : j = k
              · subst e; rw [HDX.out]; exact ⟨x0, x3⟩
              · exact HRG.out j (by omega)
            · intro j i hji hik he
              by_cases e : i = k
              · subst e
                rw [HDX.out] at he
                have := HSG.out.2 ⟨j, hji, he⟩
                rw [HS.out] at this; cases this
              · exact HDS.out j i hji (by omega) he
          case measure => simp [intOf]; omega
    · have hf : isOrd ot = true := by
        refine ord_good HL.out ?_ ?_
        · intro j x hx
          have hj := (List.getElem?_eq_some_iff.1 hx).1
          have := HRG.out j (by have := HL.out; omega)
          rw [List.getD_eq_getElem?_getD, hx] at this; exact this
        · intro j i x hj hi
          have l1 := (List.getElem?_eq_some_iff.1 hj).1
          have l2 := (List.getElem?_eq_some_iff.1 hi).1
          have ll := HL.out
          have e1 : ot.getD j 0 = x := by rw [List.getD_eq_getElem?_getD, hj]; rfl
          have e2 : ot.getD i 0 = x := by rw [List.getD_eq_getElem?_getD, hi]; rfl
          by_cases h1 : j < i
          · exact absurd (e1.trans e2.symm) (HDS.out j i h1 (by omega))
          · by_cases h2 : i < j
            · exact absurd (e2.trans e1.symm) (HDS.out i j h2 (by omega))
            · omega
      rw [hf] at HR
      clear hf
      have hcmp : ((4 : Nat) : Int) = (ot.length : Int) := by have := HL.out; omega
      have hke : k = 4 := by omega
      subst hke
      have hdc : decide (((4 : Nat) : Int) < (ot.length : Int)) = false := decide_eq_false (by omega)
      have hdc2 : ¬ (4 : Int) < (ot.length : Int) := by omega
      clear hcmp
      go_wp2_with fail
      exact HR.out _ HG.out
end Go.Proofs.Ytmaphlbmmemgcaa
