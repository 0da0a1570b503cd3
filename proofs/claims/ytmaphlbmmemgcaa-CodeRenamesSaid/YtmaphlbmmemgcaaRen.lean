/- The walks of Move and Rename, the program's and the document's. -/
import Derived.Test.YtmaphlbmmemgcaaOrd
import Derived.Test.YtmaphlbmmemgcaaPut
import Derived.Test.YtmaphlbmmemgcaaRefC
import Derived.RegionTactic
import Derived.BigRegion
import Derived.StillTailTactics
namespace Go.Proofs.Ytmaphlbmmemgcaa
open Go.RowKit

/-! ### The block of a list of numbers -/
def arrI (l : List Int) : Array Value := (l.map (Value.int .i64)).toArray
theorem arrI_cell {w : World} {b : Nat} {l : List Int} {e : TypeId} (h : w.heap[b]? = some (.cells (arrI l) e (0, 0))) {k : Nat} {x : Int} (hx : l[k]? = some x) : w.cell? ⟨b, k, none⟩ = some (.int .i64 x) := by
  unfold World.cell?; simp only [h]; simp [arrI, hx]
theorem arrI_free {w : World} {b : Nat} {l : List Int} {e : TypeId} (h : w.heap[b]? = some (.cells (arrI l) e (0, 0))) (o : Nat) : w.frozen? ⟨b, o, none⟩ = false := by
  simp [World.frozen?, h]
theorem arrI_set {w : World} {b : Nat} {l : List Int} {e : TypeId} (h : w.heap[b]? = some (.cells (arrI l) e (0, 0))) (k : Nat) (x : Int) :
    (w.setCell ⟨b, k, none⟩ (.int .i64 x)).heap[b]? = some (.cells (arrI (l.set k x)) e (0, 0)) := by
  rw [heap_setCell_same w b _ _ e _ h]
  simp [arrI, List.map_set]
theorem arrI_slc {w : World} {b : Nat} {l : List Int} {e : TypeId} (h : w.heap[b]? = some (.cells (arrI l) e (0, 0))) (hl : l.length ≤ 9223372036854775807) : IntsAt w (.slice (some ⟨b, 0, none⟩) l.length l.length) l := by
  refine ⟨_, l.length, rfl, Nat.le_refl _, hl, .inr ⟨b, 0, rfl, lt_of_block h, ?_⟩⟩
  intro j x hj i u hu
  have hi : i = 0 := by
    have := (List.getElem?_eq_some_iff.1 hu).1
    simp [encI] at this; exact this
  subst hi
  simp [encI] at hu
  subst hu
  rw [Nat.zero_add, Nat.mul_one, Nat.add_zero]
  exact arrI_cell h hj

def movE (s ot : List Int) : Int := if valS s = 0 then (if isOrd ot then 0 else 1) else valS s
def movM (s ot : List Int) : List Int := ifOK (movE s ot) (movL s ot)
def renE (p : List Ln) (ot : List Int) : Int := if valP p = 0 then (if isOrd ot then 0 else 1) else valP p
def renM (p : List Ln) (ot : List Int) : List Ln := ifOK (renE p ot) (renP p ot)

theorem isOrd_len4 {ot : List Int} (h : isOrd ot = true) : ot.length = 4 := by
  unfold isOrd at h; simp at h; exact h.1
theorem ord_at {ot : List Int} (h : isOrd ot = true) {r : Int} (r0 : 0 ≤ r) (r3 : r ≤ 3) : ot[r.toNat]? = some (toF ot r) := by
  have := isOrd_len4 h
  unfold toF
  rw [List.getD_eq_getElem?_getD, List.getElem?_eq_getElem (by omega)]; rfl

set_option maxRecDepth 100000 in
set_option maxHeartbeats 4000000 in
theorem Move_any (s ot : List Int) (v u : Value) (w : World) (hs : IntsAt w v s) (ht : IntsAt w u ot) (R : Ending → World → Prop) (hR : ∀ w' x, Grow w w' → IntsAt w' x (movM s ot) → R (.returned (.tuple #[x, .int .i64 (movE s ot)])) w') :
    Calls Try.prog 55 #[v, u] w R := by
  have HS := Lib.hid hs
  have HT := Lib.hid ht
  have HR := Lib.hid hR
  obtain ⟨sa, sc, rfl, s1, s2, _⟩ := hs
  obtain ⟨ta, tc, rfl, t1, t2, _⟩ := ht
  clear hR
  by_cases hv : valS s = 0
  rotate_left
  · have hE : movE s ot = valS s := by unfold movE; rw [if_neg hv]
    have hM : movM s ot = [] := by unfold movM; rw [hE]; exact ifOK_err hv _
    have HRR := HR.out
    rw [hM, hE] at HRR
    generalize he : valS s = e at hv HRR
    have HR2 := Lib.hid HRR
    have HVE := Lib.hid he
    have t1 : (e == 0) = false := by simpa using hv
    have t2 : (e != 0) = true := by simpa using hv
    clear HRR HR hE hM he
    go_enter Try.func55, Try.ntmps55
    go_wp2_with fail
    refine validateState_any s _ _ HS.out _ ?_
    intro w1 hg1
    rw [HVE.out]
    go_wp2_with fail
    exact HR2.out _ _ hg1 (SlcAt.nil _ _ _)
  have HV := Lib.hid hv
  obtain ⟨oo, hoo⟩ : ∃ z, isOrd ot = z := ⟨_, rfl⟩
  have HOO := Lib.hid hoo
  cases oo with
  | false =>
    have hE : movE s ot = 1 := by unfold movE; rw [if_pos hv, hoo]; rfl
    have hM : movM s ot = [] := by unfold movM; rw [hE]; exact ifOK_err (by decide) _
    have HRR := HR.out
    rw [hM, hE] at HRR
    have HR2 := Lib.hid HRR
    clear HRR HR hE hM hoo hv
    go_enter Try.func55, Try.ntmps55
    go_wp2_with fail
    refine validateState_any s _ _ HS.out _ ?_
    intro w1 hg1
    rw [HV.out]
    go_wp2_with fail
    refine isOrder_any ot _ _ (HT.out.grow hg1) _ ?_
    skip
    rw [HOO.out]
    go_wp2_with fail
    exact HR2.out _ _ hg1 (SlcAt.nil _ _ _)
  | true =>
    have hE : movE s ot = 0 := by unfold movE; rw [if_pos hv, hoo]; rfl
    have hM : movM s ot = movL s ot := by unfold movM; rw [hE]; rfl
    have HRR := HR.out
    rw [hM, hE] at HRR
    have HR2 := Lib.hid HRR
    have hot := isOrd_len4 hoo
    have HOT := Lib.hid hot
    obtain ⟨q, rfl, hq⟩ := St.of_valS hv
    rw [show q.toL.length = 4 from rfl] at HS ⊢
    have hmk : ∀ W, (Instr.makeSlice 23 (.int .i64 4) (.int .i64 4)).run Try.prog W = .ok (.slice (some ⟨W.heap.size, 0, none⟩) 4 4) (W.alloc (.cells (arrI [0, 0, 0, 0]) 3)) := fun W => by kernel_rfl
    clear HRR HR hE hM hoo hv hot
    go_enter Try.func55, Try.ntmps55
    go_wp2_with fail
    refine validateState_any q.toL _ _ HS.out _ ?_
    intro w1 hg1
    rw [HV.out]
    go_wp2_with fail
    refine isOrder_any ot _ _ (HT.out.grow hg1) _ ?_
    skip
    rw [HOO.out]
    have HG1 := Lib.hid (show Grow w w1 from hg1)
    go_wp2_with fail
    clear hmk
    have hi0 : (World.alloc w1 (.cells (arrI [0, 0, 0, 0]) 3)).heap[(w1).heap.size]? = some (.cells (arrI (movN q.toL ot 0)) 3 (0, 0)) := heap_alloc_new w1 _
    have hg0 : Grow w (World.alloc w1 (.cells (arrI [0, 0, 0, 0]) 3)) := HG1.out.alloc _
    have hsz := HG1.out.sz
    generalize World.alloc w1 (.cells (arrI [0, 0, 0, 0]) 3) = w3 at hi0 hg0 ⊢
    generalize (w1).heap.size = g at hi0 hsz ⊢
    have HI0 := Lib.hid hi0
    have HG0 := Lib.hid hg0
    clear hi0 hg0
    go_loopw [23] (fun i wr => ∃ k : Nat, k ≤ 4 ∧ i = .int .i64 k ∧ Grow w wr ∧ wr.heap[g]? = some (.cells (arrI (movN q.toL ot k)) 3 (0, 0))) (fun i _ => 4 - (intOf i).toNat)
    case atStart => exact ⟨0, by omega, rfl, HG0.out, HI0.out⟩
    case round =>
      obtain ⟨k, hk, rfl, hg, hi⟩ := hrel
      have HG := Lib.hid hg
      have HI := Lib.hid hi
      have hgl := lt_of_block hi
      clear hg hi
      by_cases hlt : k < 4
      · obtain ⟨x, hx⟩ : ∃ x, q.toL[k]? = some x := ⟨_, List.getElem?_eq_getElem (by exact hlt)⟩
        obtain ⟨sb, so, rfl, _, ex⟩ := ints_at (HS.out.grow HG.out) hx
        obtain ⟨r0, r3⟩ := toF_reg HOO.out (r := (k : Int)) (by omega) (by omega)
        have ho := ord_at HOO.out (r := (k : Int)) (by omega) (by omega)
        rw [Int.toNat_natCast] at ho
        obtain ⟨tb, to_, rfl, _, ey⟩ := ints_at (HT.out.grow HG.out) ho
        have hdx : q.toL.getD k 0 = x := by rw [List.getD_eq_getElem?_getD, hx]; rfl
        have HDX := Lib.hid hdx
        obtain ⟨y, hy⟩ : ∃ y, toF ot (k : Int) = y := ⟨_, rfl⟩
        rw [hy] at ey r0 r3
        have HY := Lib.hid hy
        have hln : y.toNat < (movN q.toL ot k).length := by rw [movN_length, show q.toL.length = 4 from rfl]; omega
        have cz := arrI_cell HI.out (List.getElem?_eq_getElem hln)
        have fz := arrI_free HI.out y.toNat
        generalize (movN q.toL ot k)[y.toNat] = old at cz
        have r4 : y < 4 := by omega
        have hkt : (k : Int) < (ot.length : Int) := by rw [HOT.out]; omega
        have hkt2 : k < ot.length := by rw [HOT.out]; omega
        have hk4 : (k : Int) < 4 := by omega
        clear hx ho hdx hy hln
        go_wp2_with fail
        go_roundw
        case rel =>
          refine ⟨k + 1, by omega, by go_num, Below.setCell HG.out hsz _, ?_⟩
          rw [movN_succ, HDX.out, HY.out]
          exact arrI_set HI.out y.toNat x
        case measure => simp [intOf]; omega
      · have hke : k = 4 := by omega
        subst hke
        have hfin : IntsAt wr (.slice (some ⟨g, 0, none⟩) 4 4) (movL q.toL ot) := by
          have := arrI_slc HI.out (by rw [movN_length]; show 4 ≤ _; omega)
          rw [movN_length] at this
          exact this
        have HF := Lib.hid (HR2.out wr _ HG.out hfin)
        clear hfin
        go_wp2_with fail
        exact HF.out

set_option maxRecDepth 100000 in
set_option maxHeartbeats 4000000 in
theorem rMove_any (s ot : List Int) (v u : Value) (w : World) (hs : IntsAt w v s) (ht : IntsAt w u ot) (R : Ending → World → Prop) (hR : ∀ w' x, Grow w w' → IntsAt w' x (movM s ot) → R (.returned (.tuple #[x, .int .i64 (movE s ot)])) w') :
    Calls Try.prog 56 #[v, u] w R := by
  have HS := Lib.hid hs
  have HT := Lib.hid ht
  have HR := Lib.hid hR
  obtain ⟨sa, sc, rfl, s1, s2, _⟩ := hs
  obtain ⟨ta, tc, rfl, t1, t2, _⟩ := ht
  clear hR
  by_cases hv : valS s = 0
  rotate_left
  · have hE : movE s ot = valS s := by unfold movE; rw [if_neg hv]
    have hM : movM s ot = [] := by unfold movM; rw [hE]; exact ifOK_err hv _
    have HRR := HR.out
    rw [hM, hE] at HRR
    generalize he : valS s = e at hv HRR
    have HR2 := Lib.hid HRR
    have HVE := Lib.hid he
    have t1 : (e == 0) = false := by simpa using hv
    have t2 : (e != 0) = true := by simpa using hv
    clear HRR HR hE hM he
    go_enter Try.func56, Try.ntmps56
    go_wp2_with fail
    refine rValidateState_any s _ _ HS.out _ ?_
    skip
    rw [HVE.out]
    go_wp2_with fail
    exact HR2.out _ _ (Grow.refl _) (SlcAt.nil _ _ _)
  have HV := Lib.hid hv
  obtain ⟨oo, hoo⟩ : ∃ z, isOrd ot = z := ⟨_, rfl⟩
  have HOO := Lib.hid hoo
  cases oo with
  | false =>
    have hE : movE s ot = 1 := by unfold movE; rw [if_pos hv, hoo]; rfl
    have hM : movM s ot = [] := by unfold movM; rw [hE]; exact ifOK_err (by decide) _
    have HRR := HR.out
    rw [hM, hE] at HRR
    have HR2 := Lib.hid HRR
    clear HRR HR hE hM hoo hv
    go_enter Try.func56, Try.ntmps56
    go_wp2_with fail
    refine rValidateState_any s _ _ HS.out _ ?_
    skip
    rw [HV.out]
    go_wp2_with fail
    refine rIsOrder_any ot _ _ HT.out _ ?_
    intro w2 hg2
    rw [HOO.out]
    go_wp2_with fail
    exact HR2.out _ _ hg2 (SlcAt.nil _ _ _)
  | true =>
    have hE : movE s ot = 0 := by unfold movE; rw [if_pos hv, hoo]; rfl
    have hM : movM s ot = movL s ot := by unfold movM; rw [hE]; rfl
    have HRR := HR.out
    rw [hM, hE] at HRR
    have HR2 := Lib.hid HRR
    have hot := isOrd_len4 hoo
    have HOT := Lib.hid hot
    obtain ⟨q, rfl, hq⟩ := St.of_valS hv
    rw [show q.toL.length = 4 from rfl] at HS ⊢
    have hmk : ∀ W, (Instr.makeSlice 23 (.int .i64 4) (.int .i64 4)).run Try.prog W = .ok (.slice (some ⟨W.heap.size, 0, none⟩) 4 4) (W.alloc (.cells (arrI [0, 0, 0, 0]) 3)) := fun W => by kernel_rfl
    clear HRR HR hE hM hoo hv hot
    go_enter Try.func56, Try.ntmps56
    go_wp2_with fail
    refine rValidateState_any q.toL _ _ HS.out _ ?_
    skip
    rw [HV.out]
    go_wp2_with fail
    refine rIsOrder_any ot _ _ HT.out _ ?_
    intro w2 hg2
    rw [HOO.out]
    have HG1 := Lib.hid (show Grow w w2 from hg2)
    go_wp2_with fail
    clear hmk
    have hi0 : (World.alloc w2 (.cells (arrI [0, 0, 0, 0]) 3)).heap[(w2).heap.size]? = some (.cells (arrI (movN q.toL ot 0)) 3 (0, 0)) := heap_alloc_new w2 _
    have hg0 : Grow w (World.alloc w2 (.cells (arrI [0, 0, 0, 0]) 3)) := HG1.out.alloc _
    have hsz := HG1.out.sz
    generalize World.alloc w2 (.cells (arrI [0, 0, 0, 0]) 3) = w3 at hi0 hg0 ⊢
    generalize (w2).heap.size = g at hi0 hsz ⊢
    have HI0 := Lib.hid hi0
    have HG0 := Lib.hid hg0
    clear hi0 hg0
    go_loopw [8] (fun i wr => ∃ k : Nat, k ≤ 4 ∧ i = .int .i64 k ∧ Grow w wr ∧ wr.heap[g]? = some (.cells (arrI (movN q.toL ot k)) 3 (0, 0))) (fun i _ => 4 - (intOf i).toNat)
    case atStart => exact ⟨0, by omega, rfl, HG0.out, HI0.out⟩
    case round =>
      obtain ⟨k, hk, rfl, hg, hi⟩ := hrel
      have HG := Lib.hid hg
      have HI := Lib.hid hi
      have hgl := lt_of_block hi
      clear hg hi
      by_cases hlt : k < 4
      · obtain ⟨x, hx⟩ : ∃ x, q.toL[k]? = some x := ⟨_, List.getElem?_eq_getElem (by exact hlt)⟩
        obtain ⟨sb, so, rfl, _, ex⟩ := ints_at (HS.out.grow HG.out) hx
        obtain ⟨r0, r3⟩ := toF_reg HOO.out (r := (k : Int)) (by omega) (by omega)
        have ho := ord_at HOO.out (r := (k : Int)) (by omega) (by omega)
        rw [Int.toNat_natCast] at ho
        obtain ⟨tb, to_, rfl, _, ey⟩ := ints_at (HT.out.grow HG.out) ho
        have hdx : q.toL.getD k 0 = x := by rw [List.getD_eq_getElem?_getD, hx]; rfl
        have HDX := Lib.hid hdx
        obtain ⟨y, hy⟩ : ∃ y, toF ot (k : Int) = y := ⟨_, rfl⟩
        rw [hy] at ey r0 r3
        have HY := Lib.hid hy
        have hln : y.toNat < (movN q.toL ot k).length := by rw [movN_length, show q.toL.length = 4 from rfl]; omega
        have cz := arrI_cell HI.out (List.getElem?_eq_getElem hln)
        have fz := arrI_free HI.out y.toNat
        generalize (movN q.toL ot k)[y.toNat] = old at cz
        have r4 : y < 4 := by omega
        have hkt : (k : Int) < (ot.length : Int) := by rw [HOT.out]; omega
        have hkt2 : k < ot.length := by rw [HOT.out]; omega
        have hk4 : (k : Int) < 4 := by omega
        clear hx ho hdx hy hln
        go_wp2_with fail
        go_region
        go_wp2_with fail
        go_roundw
        case rel =>
          refine ⟨k + 1, by omega, by go_num, (Below.setCell HG.out hsz _).drew, ?_⟩
          rw [movN_succ, HDX.out, HY.out]
          exact arrI_set HI.out y.toNat x
        case measure => simp [intOf]; omega
      · have hke : k = 4 := by omega
        subst hke
        have hfin : IntsAt wr (.slice (some ⟨g, 0, none⟩) 4 4) (movL q.toL ot) := by
          have := arrI_slc HI.out (by rw [movN_length]; show 4 ≤ _; omega)
          rw [movN_length] at this
          exact this
        have HF := Lib.hid (HR2.out wr _ HG.out hfin)
        clear hfin
        go_wp2_with fail
        exact HF.out


/-! ### Rename -/
theorem flat_setj : ∀ (L : List Ln) (k j : Nat) (l l' : Ln) (u : Value), L[k]? = some l → j < 4 → encL l' = (encL l).set j u → (L.flatMap encL).set (k * 4 + j) u = (L.set k l').flatMap encL
  | [], k, j, l, l', u, h, _, _ => by simp at h
  | x :: xs, 0, j, l, l', u, h, hj, he => by
    simp at h; subst h
    rw [List.flatMap_cons, List.set_append_left _ _ (by rw [encL_len]; omega), List.set_cons_zero, List.flatMap_cons, he]
    simp
  | x :: xs, k + 1, j, l, l', u, h, hj, he => by
    have ih := flat_setj xs k j l l' u (by simpa using h) hj he
    rw [List.set_cons_succ, List.flatMap_cons, List.flatMap_cons, List.set_append_right _ _ (by rw [encL_len]; omega), encL_len, show (k + 1) * 4 + j - 4 = k * 4 + j by omega, ih]
theorem List.set_getElem_self_of {α : Type} {L : List α} {k : Nat} {x : α} (h : L[k]? = some x) : L.set k x = L := by
  obtain ⟨hk, rfl⟩ := List.getElem?_eq_some_iff.1 h
  exact List.set_getElem_self hk
theorem owns_field {w : World} {base : Nat} {e : TypeId} {g cap : Nat} {L : List Ln} (h : w.ownsRow base e 4 (.slice (some ⟨g, 0, none⟩) L.length cap) L.length (L.flatMap encL)) {k j : Nat} {l l' : Ln} {u : Value} (hk : L[k]? = some l) (hj : j < 4) (he : encL l' = (encL l).set j u) :
    (w.setCell ⟨g, k * 4 + j, none⟩ u).ownsRow base e 4 (.slice (some ⟨g, 0, none⟩) (L.set k l').length cap) (L.set k l').length ((L.set k l').flatMap encL) := by
  rw [List.length_set, ← flat_setj L k j l l' u hk hj he]
  exact ownsRow_set h _ _
/-- How far a renaming has come. -/
def renN (p : List Ln) (ot : List Int) (k : Nat) : List Ln := (p.take k).map (renL ot) ++ p.drop k
theorem renN_length (p : List Ln) (ot : List Int) (k : Nat) : (renN p ot k).length = p.length := by simp [renN]; omega
theorem renN_zero (p : List Ln) (ot : List Int) : renN p ot 0 = p := by simp [renN]
theorem renN_all (p : List Ln) (ot : List Int) : renN p ot p.length = renP p ot := by simp [renN, renP]
theorem renN_at {p : List Ln} {ot : List Int} {k : Nat} {l : Ln} (h : p[k]? = some l) : (renN p ot k)[k]? = some l := by
  have hk := (List.getElem?_eq_some_iff.1 h).1
  unfold renN
  rw [List.getElem?_append_right (by simp; omega)]
  simp [Nat.min_eq_left (Nat.le_of_lt hk), h]
theorem renN_succ {p : List Ln} {ot : List Int} {k : Nat} {l : Ln} (h : p[k]? = some l) : renN p ot (k + 1) = (renN p ot k).set k (renL ot l) := by
  have hk := (List.getElem?_eq_some_iff.1 h).1
  unfold renN
  rw [List.set_append_right _ _ (by simp; omega)]
  simp only [List.length_map, List.length_take, Nat.min_eq_left (Nat.le_of_lt hk), Nat.sub_self]
  rw [List.take_add_one, h, List.drop_eq_getElem_cons hk, List.set_cons_zero]
  simp

set_option maxRecDepth 100000 in
set_option maxHeartbeats 16000000 in
theorem Ren_any (p : List Ln) (ot : List Int) (v u : Value) (w : World) (hp : LinesAt w v p) (ht : IntsAt w u ot) (R : Ending → World → Prop) (hR : ∀ w' x, Grow w w' → LinesAt w' x (renM p ot) → R (.returned (.tuple #[x, .int .i64 (renE p ot)])) w') :
    Calls Try.prog 53 #[v, u] w R := by
  have HP := Lib.hid hp
  have HT := Lib.hid ht
  have HR := Lib.hid hR
  obtain ⟨pa, pc, rfl, p1, p2, _⟩ := hp
  obtain ⟨ta, tc, rfl, t1, t2, _⟩ := ht
  clear hR
  by_cases hv : valP p = 0
  rotate_left
  · have hE : renE p ot = valP p := by unfold renE; rw [if_neg hv]
    have hM : renM p ot = [] := by unfold renM; rw [hE]; exact ifOK_err hv _
    have HRR := HR.out
    rw [hM, hE] at HRR
    generalize he : valP p = e at hv HRR
    have HR2 := Lib.hid HRR
    have HVE := Lib.hid he
    have t1 : (e == 0) = false := by simpa using hv
    have t2 : (e != 0) = true := by simpa using hv
    clear HRR HR hE hM he
    go_enter Try.func53, Try.ntmps53
    go_wp2_with fail
    refine validate_any p _ _ HP.out _ ?_
    intro w1 hg1
    rw [HVE.out]
    go_wp2_with fail
    exact HR2.out _ _ hg1 (SlcAt.nil _ _ _)
  have HV := Lib.hid hv
  have hp8 := (valP_ok.1 hv).1
  obtain ⟨oo, hoo⟩ : ∃ z, isOrd ot = z := ⟨_, rfl⟩
  have HOO := Lib.hid hoo
  cases oo with
  | false =>
    have hE : renE p ot = 1 := by unfold renE; rw [if_pos hv, hoo]; rfl
    have hM : renM p ot = [] := by unfold renM; rw [hE]; exact ifOK_err (by decide) _
    have HRR := HR.out
    rw [hM, hE] at HRR
    have HR2 := Lib.hid HRR
    clear HRR HR hE hM hoo hv
    go_enter Try.func53, Try.ntmps53
    go_wp2_with fail
    refine validate_any p _ _ HP.out _ ?_
    intro w1 hg1
    rw [HV.out]
    go_wp2_with fail
    refine isOrder_any ot _ _ (HT.out.grow hg1) _ ?_
    skip
    rw [HOO.out]
    go_wp2_with fail
    exact HR2.out _ _ hg1 (SlcAt.nil _ _ _)
  | true =>
    have hE : renE p ot = 0 := by unfold renE; rw [if_pos hv, hoo]; rfl
    have hM : renM p ot = renP p ot := by unfold renM; rw [hE]; rfl
    have HRR := HR.out
    rw [hM, hE] at HRR
    have HR2 := Lib.hid HRR
    have hot := isOrd_len4 hoo
    have HOT := Lib.hid hot
    clear HRR HR hE hM hoo hv hot
    go_enter Try.func53, Try.ntmps53
    go_wp2_with fail
    refine validate_any p _ _ HP.out _ ?_
    intro w1 hg1
    rw [HV.out]
    go_wp2_with fail
    refine isOrder_any ot _ _ (HT.out.grow hg1) _ ?_
    skip
    rw [HOO.out]
    have HG1 := Lib.hid (show Grow w w1 from hg1)
    go_wp2_with fail
    refine clone_any' p _ _ (HP.out.grow HG1.out) (by omega) _ ?_
    intro w3 x3 hg3 hown
    have HG3 := Lib.hid (HG1.out.trans hg3)
    have hsz := HG1.out.sz
    obtain ⟨xa, xc, rfl, _, _, _⟩ := hown.slc encL_len
    have HO3 := Lib.hid hown
    clear hg3 hown
    go_wp2_with fail
    go_loopw [24] (fun i wr => ∃ k : Nat, k ≤ p.length ∧ i = .int .i64 k ∧ Grow w wr ∧ ∃ e, wr.ownsRow (w1).heap.size e 4 (.slice xa p.length xc) (renN p ot k).length ((renN p ot k).flatMap encL)) (fun i _ => p.length - (intOf i).toNat)
    case atStart =>
      obtain ⟨e, h⟩ := HO3.out
      exact ⟨0, by omega, rfl, HG3.out, e, by rw [renN_zero]; exact h⟩
    case round =>
      obtain ⟨k, hk, rfl, hg, e, hrow⟩ := hrel
      have HG := Lib.hid hg
      by_cases hlt : k < p.length
      · obtain ⟨⟨op, d, a, b⟩, hl⟩ : ∃ l, p[k]? = some l := ⟨_, List.getElem?_eq_getElem hlt⟩
        have hok := (valP_ok.1 HV.out).2 _ (List.mem_of_getElem? hl)
        obtain ⟨o0, o7, od, _⟩ := ok_rd hok
        obtain ⟨oa, ob⟩ := ok_args (op := op) (d := d) (a := a) (b := b) hok
        have hwb := wrB_of_ok (op := op) (d := d) (a := a) (b := b) hok
        have hrl : (renN p ot k).length = p.length := renN_length p ot k
        obtain ⟨g, cap, hxv, hgb, hgl⟩ : ∃ g cap, Value.slice xa p.length xc = .slice (some ⟨g, 0, none⟩) p.length cap ∧ (w1).heap.size ≤ g ∧ g < wr.heap.size := by
          rcases hrow.2 with ⟨_, h0⟩ | ⟨g, cap, cur, h1, hg2, hh, _⟩
          · omega
          · rw [hrl] at h1; exact ⟨g, cap, h1, hg2, lt_of_block hh⟩
        cases hxv
        rw [← hrl] at hrow
        rw [hrl] at hrow
        have hrow2 : wr.ownsRow (w1).heap.size e 4 (.slice (some ⟨g, 0, none⟩) (renN p ot k).length xc) (renN p ot k).length ((renN p ot k).flatMap encL) := by rw [hrl]; exact hrow
        obtain ⟨k0, k1, k2, k3⟩ := own_cells hrow2 k _ (renN_at hl)
        have z1 := ownsRow_free hrow2 (k * 4 + 1)
        have z2 := ownsRow_free hrow2 (k * 4 + 2)
        have z3 := ownsRow_free hrow2 (k * 4 + 3)
        have HROW := Lib.hid hrow2
        have HL := Lib.hid hl
        have HRL := Lib.hid hrl
        have HWB := Lib.hid hwb
        clear hg hrow hrow2 hl hok hrl hwb
        skip
        have hop : op = 0 ∨ op = 1 ∨ op = 2 ∨ op = 3 ∨ op = 4 ∨ op = 5 ∨ op = 6 ∨ op = 7 := by omega
        rcases hop with rfl | rfl | rfl | rfl | rfl | rfl | rfl | rfl
        · have hwv : wrB 0 = false := rfl
          have HW := Lib.hid hwv
          clear hwv od oa ob
          go_wp2_with fail
          refine writes_any 0 d a b _ _ ?_
          intro w4 hg4
          rw [HW.out]
          have hrow4 := hg4.owns HROW.out
          obtain ⟨l0, l1, l2, l3⟩ := own_cells hrow4 k _ (renN_at HL.out)
          have y1 := ownsRow_free hrow4 (k * 4 + 1)
          have y2 := ownsRow_free hrow4 (k * 4 + 2)
          have y3 := ownsRow_free hrow4 (k * 4 + 3)
          have HROW4 := Lib.hid hrow4
          have HG4 := Lib.hid (HG.out.trans hg4)
          have hgw : w.heap.size ≤ g := by omega
          have hgl4 : g < w4.heap.size := by have := hg4.sz; omega
          clear hg4 hrow4 k0 k1 k2 k3 z1 z2 z3
          go_wp2_with fail
          go_roundw
          case rel =>
            have hsn := renN_succ (ot := ot) HL.out
            have hre : renL ot ⟨0, d, a, b⟩ = ⟨0, d, a, b⟩ := rfl
            have hid : (renN p ot k).set k ⟨0, d, a, b⟩ = renN p ot k := List.set_getElem_self_of (renN_at HL.out)
            rw [hre, hid] at hsn
            have r9 := HROW4.out
            rw [← hsn] at r9
            rw [renN_length] at r9
            refine ⟨k + 1, by omega, by go_num, HG4.out, e, ?_⟩
            rw [renN_length]
            exact r9
          case measure => simp [intOf]; omega
        · have hwv : wrB 1 = true := rfl
          have HW := Lib.hid hwv
          obtain ⟨d0, d3⟩ := od hwv
          have hvd := ord_at HOO.out d0 d3
          obtain ⟨nd, hnd⟩ : ∃ n, toF ot d = n := ⟨_, rfl⟩
          rw [hnd] at hvd
          have HNd := Lib.hid hnd
          obtain ⟨tb, to_, rfl, htb, cd⟩ := ints_at HT.out hvd
          clear cd
          obtain ⟨_, _, et, htbd, cd⟩ := ints_at (HT.out.grow HG.out) hvd
          cases et
          have bd4 : d < (ot.length : Int) := by rw [HOT.out]; omega
          have bd5 : d.toNat < ot.length := by rw [HOT.out]; omega
          have hnt1 : tb ≠ g := by omega
          have hnt2 : g ≠ tb := by omega
          clear hvd hnd
          clear hwv od oa ob
          go_wp2_with fail
          refine writes_any 1 d a b _ _ ?_
          intro w4 hg4
          rw [HW.out]
          have hrow4 := hg4.owns HROW.out
          obtain ⟨l0, l1, l2, l3⟩ := own_cells hrow4 k _ (renN_at HL.out)
          have y1 := ownsRow_free hrow4 (k * 4 + 1)
          have y2 := ownsRow_free hrow4 (k * 4 + 2)
          have y3 := ownsRow_free hrow4 (k * 4 + 3)
          have id := hg4.cell cd
          have HROW4 := Lib.hid hrow4
          have HG4 := Lib.hid (HG.out.trans hg4)
          have hgw : w.heap.size ≤ g := by omega
          have hgl4 : g < w4.heap.size := by have := hg4.sz; omega
          have htl4 : tb < w4.heap.size := by have := hg4.sz; omega
          clear hg4 hrow4 k0 k1 k2 k3 z1 z2 z3 cd
          go_wp2_with fail
          go_roundw
          case rel =>
            have r0 := owns_field (l := ⟨1, d, a, b⟩) (l' := ⟨1, nd, a, b⟩) (u := .int .i64 nd) (j := 1) HROW4.out (renN_at HL.out) (by decide) rfl
            have hsn := renN_succ (ot := ot) HL.out
            have hre : renL ot ⟨1, d, a, b⟩ = ⟨1, nd, a, b⟩ := by unfold renL; simp [HW.out, HNd.out]
            rw [hre] at hsn
            rw [← hsn] at r0
            rw [renN_length] at r0
            refine ⟨k + 1, by omega, by go_num, (Below.setCell HG4.out hgw _), e, ?_⟩
            rw [renN_length]
            exact r0
          case measure => simp [intOf]; omega
        · have hwv : wrB 2 = true := rfl
          have HW := Lib.hid hwv
          obtain ⟨d0, d3⟩ := od hwv
          have hvd := ord_at HOO.out d0 d3
          obtain ⟨nd, hnd⟩ : ∃ n, toF ot d = n := ⟨_, rfl⟩
          rw [hnd] at hvd
          have HNd := Lib.hid hnd
          obtain ⟨tb, to_, rfl, htb, cd⟩ := ints_at HT.out hvd
          clear cd
          obtain ⟨_, _, et, htbd, cd⟩ := ints_at (HT.out.grow HG.out) hvd
          cases et
          have bd4 : d < (ot.length : Int) := by rw [HOT.out]; omega
          have bd5 : d.toNat < ot.length := by rw [HOT.out]; omega
          obtain ⟨a0, a3⟩ := oa (by omega)
          have hva := ord_at HOO.out a0 a3
          obtain ⟨na, hna⟩ : ∃ n, toF ot a = n := ⟨_, rfl⟩
          rw [hna] at hva
          have HNa := Lib.hid hna
          obtain ⟨_, _, et, htba, ca⟩ := ints_at (HT.out.grow HG.out) hva
          cases et
          have ba4 : a < (ot.length : Int) := by rw [HOT.out]; omega
          have ba5 : a.toNat < ot.length := by rw [HOT.out]; omega
          have hnt1 : tb ≠ g := by omega
          have hnt2 : g ≠ tb := by omega
          clear hvd hnd hva hna
          clear hwv od oa ob
          go_wp2_with fail
          refine writes_any 2 d a b _ _ ?_
          intro w4 hg4
          rw [HW.out]
          have hrow4 := hg4.owns HROW.out
          obtain ⟨l0, l1, l2, l3⟩ := own_cells hrow4 k _ (renN_at HL.out)
          have y1 := ownsRow_free hrow4 (k * 4 + 1)
          have y2 := ownsRow_free hrow4 (k * 4 + 2)
          have y3 := ownsRow_free hrow4 (k * 4 + 3)
          have id := hg4.cell cd
          have ia := hg4.cell ca
          have HROW4 := Lib.hid hrow4
          have HG4 := Lib.hid (HG.out.trans hg4)
          have hgw : w.heap.size ≤ g := by omega
          have hgl4 : g < w4.heap.size := by have := hg4.sz; omega
          have htl4 : tb < w4.heap.size := by have := hg4.sz; omega
          clear hg4 hrow4 k0 k1 k2 k3 z1 z2 z3 cd ca
          go_wp2_with fail
          go_roundw
          case rel =>
            have r0 := owns_field (l := ⟨2, d, a, b⟩) (l' := ⟨2, nd, a, b⟩) (u := .int .i64 nd) (j := 1) HROW4.out (renN_at HL.out) (by decide) rfl
            have r1 := owns_field (l := ⟨2, nd, a, b⟩) (l' := ⟨2, nd, na, b⟩) (u := .int .i64 na) (j := 2) r0 (by rw [List.getElem?_set_self (by rw [HRL.out]; exact hlt)]) (by decide) rfl
            have hsn := renN_succ (ot := ot) HL.out
            have hre : renL ot ⟨2, d, a, b⟩ = ⟨2, nd, na, b⟩ := by unfold renL; simp [HW.out, HNd.out, HNa.out]
            simp only [List.set_set] at r1
            rw [hre] at hsn
            rw [← hsn] at r1
            rw [renN_length] at r1
            refine ⟨k + 1, by omega, by go_num, (Below.setCell (Below.setCell HG4.out hgw _) hgw _), e, ?_⟩
            rw [renN_length]
            exact r1
          case measure => simp [intOf]; omega
        · have hwv : wrB 3 = true := rfl
          have HW := Lib.hid hwv
          obtain ⟨d0, d3⟩ := od hwv
          have hvd := ord_at HOO.out d0 d3
          obtain ⟨nd, hnd⟩ : ∃ n, toF ot d = n := ⟨_, rfl⟩
          rw [hnd] at hvd
          have HNd := Lib.hid hnd
          obtain ⟨tb, to_, rfl, htb, cd⟩ := ints_at HT.out hvd
          clear cd
          obtain ⟨_, _, et, htbd, cd⟩ := ints_at (HT.out.grow HG.out) hvd
          cases et
          have bd4 : d < (ot.length : Int) := by rw [HOT.out]; omega
          have bd5 : d.toNat < ot.length := by rw [HOT.out]; omega
          obtain ⟨a0, a3⟩ := oa (by omega)
          have hva := ord_at HOO.out a0 a3
          obtain ⟨na, hna⟩ : ∃ n, toF ot a = n := ⟨_, rfl⟩
          rw [hna] at hva
          have HNa := Lib.hid hna
          obtain ⟨_, _, et, htba, ca⟩ := ints_at (HT.out.grow HG.out) hva
          cases et
          have ba4 : a < (ot.length : Int) := by rw [HOT.out]; omega
          have ba5 : a.toNat < ot.length := by rw [HOT.out]; omega
          obtain ⟨b0, b3⟩ := ob (by omega)
          have hvb := ord_at HOO.out b0 b3
          obtain ⟨nb, hnb⟩ : ∃ n, toF ot b = n := ⟨_, rfl⟩
          rw [hnb] at hvb
          have HNb := Lib.hid hnb
          obtain ⟨_, _, et, htbb, cb⟩ := ints_at (HT.out.grow HG.out) hvb
          cases et
          have bb4 : b < (ot.length : Int) := by rw [HOT.out]; omega
          have bb5 : b.toNat < ot.length := by rw [HOT.out]; omega
          have hnt1 : tb ≠ g := by omega
          have hnt2 : g ≠ tb := by omega
          clear hvd hnd hva hna hvb hnb
          clear hwv od oa ob
          go_wp2_with fail
          refine writes_any 3 d a b _ _ ?_
          intro w4 hg4
          rw [HW.out]
          have hrow4 := hg4.owns HROW.out
          obtain ⟨l0, l1, l2, l3⟩ := own_cells hrow4 k _ (renN_at HL.out)
          have y1 := ownsRow_free hrow4 (k * 4 + 1)
          have y2 := ownsRow_free hrow4 (k * 4 + 2)
          have y3 := ownsRow_free hrow4 (k * 4 + 3)
          have id := hg4.cell cd
          have ia := hg4.cell ca
          have ib := hg4.cell cb
          have HROW4 := Lib.hid hrow4
          have HG4 := Lib.hid (HG.out.trans hg4)
          have hgw : w.heap.size ≤ g := by omega
          have hgl4 : g < w4.heap.size := by have := hg4.sz; omega
          have htl4 : tb < w4.heap.size := by have := hg4.sz; omega
          clear hg4 hrow4 k0 k1 k2 k3 z1 z2 z3 cd ca cb
          go_wp2_with fail
          go_region
          go_wp2_with fail
          go_roundw
          case rel =>
            have r0 := owns_field (l := ⟨3, d, a, b⟩) (l' := ⟨3, nd, a, b⟩) (u := .int .i64 nd) (j := 1) HROW4.out (renN_at HL.out) (by decide) rfl
            have r1 := owns_field (l := ⟨3, nd, a, b⟩) (l' := ⟨3, nd, na, b⟩) (u := .int .i64 na) (j := 2) r0 (by rw [List.getElem?_set_self (by rw [HRL.out]; exact hlt)]) (by decide) rfl
            have r2 := owns_field (l := ⟨3, nd, na, b⟩) (l' := ⟨3, nd, na, nb⟩) (u := .int .i64 nb) (j := 3) r1 (by rw [List.getElem?_set_self (by rw [List.length_set, HRL.out]; exact hlt)]) (by decide) rfl
            have hsn := renN_succ (ot := ot) HL.out
            have hre : renL ot ⟨3, d, a, b⟩ = ⟨3, nd, na, nb⟩ := by unfold renL; simp [HW.out, HNd.out, HNa.out, HNb.out]
            simp only [List.set_set] at r2
            rw [hre] at hsn
            rw [← hsn] at r2
            rw [renN_length] at r2
            refine ⟨k + 1, by omega, by go_num, (Below.setCell (Below.setCell (Below.setCell HG4.out hgw _) hgw _) hgw _).drew, e, ?_⟩
            rw [renN_length]
            exact ((Grow.refl _).drew).owns r2
          case measure => simp [intOf]; omega
        · have hwv : wrB 4 = true := rfl
          have HW := Lib.hid hwv
          obtain ⟨d0, d3⟩ := od hwv
          have hvd := ord_at HOO.out d0 d3
          obtain ⟨nd, hnd⟩ : ∃ n, toF ot d = n := ⟨_, rfl⟩
          rw [hnd] at hvd
          have HNd := Lib.hid hnd
          obtain ⟨tb, to_, rfl, htb, cd⟩ := ints_at HT.out hvd
          clear cd
          obtain ⟨_, _, et, htbd, cd⟩ := ints_at (HT.out.grow HG.out) hvd
          cases et
          have bd4 : d < (ot.length : Int) := by rw [HOT.out]; omega
          have bd5 : d.toNat < ot.length := by rw [HOT.out]; omega
          obtain ⟨a0, a3⟩ := oa (by omega)
          have hva := ord_at HOO.out a0 a3
          obtain ⟨na, hna⟩ : ∃ n, toF ot a = n := ⟨_, rfl⟩
          rw [hna] at hva
          have HNa := Lib.hid hna
          obtain ⟨_, _, et, htba, ca⟩ := ints_at (HT.out.grow HG.out) hva
          cases et
          have ba4 : a < (ot.length : Int) := by rw [HOT.out]; omega
          have ba5 : a.toNat < ot.length := by rw [HOT.out]; omega
          obtain ⟨b0, b3⟩ := ob (by omega)
          have hvb := ord_at HOO.out b0 b3
          obtain ⟨nb, hnb⟩ : ∃ n, toF ot b = n := ⟨_, rfl⟩
          rw [hnb] at hvb
          have HNb := Lib.hid hnb
          obtain ⟨_, _, et, htbb, cb⟩ := ints_at (HT.out.grow HG.out) hvb
          cases et
          have bb4 : b < (ot.length : Int) := by rw [HOT.out]; omega
          have bb5 : b.toNat < ot.length := by rw [HOT.out]; omega
          have hnt1 : tb ≠ g := by omega
          have hnt2 : g ≠ tb := by omega
          clear hvd hnd hva hna hvb hnb
          clear hwv od oa ob
          go_wp2_with fail
          refine writes_any 4 d a b _ _ ?_
          intro w4 hg4
          rw [HW.out]
          have hrow4 := hg4.owns HROW.out
          obtain ⟨l0, l1, l2, l3⟩ := own_cells hrow4 k _ (renN_at HL.out)
          have y1 := ownsRow_free hrow4 (k * 4 + 1)
          have y2 := ownsRow_free hrow4 (k * 4 + 2)
          have y3 := ownsRow_free hrow4 (k * 4 + 3)
          have id := hg4.cell cd
          have ia := hg4.cell ca
          have ib := hg4.cell cb
          have HROW4 := Lib.hid hrow4
          have HG4 := Lib.hid (HG.out.trans hg4)
          have hgw : w.heap.size ≤ g := by omega
          have hgl4 : g < w4.heap.size := by have := hg4.sz; omega
          have htl4 : tb < w4.heap.size := by have := hg4.sz; omega
          clear hg4 hrow4 k0 k1 k2 k3 z1 z2 z3 cd ca cb
          go_wp2_with fail
          go_region
          go_wp2_with fail
          go_roundw
          case rel =>
            have r0 := owns_field (l := ⟨4, d, a, b⟩) (l' := ⟨4, nd, a, b⟩) (u := .int .i64 nd) (j := 1) HROW4.out (renN_at HL.out) (by decide) rfl
            have r1 := owns_field (l := ⟨4, nd, a, b⟩) (l' := ⟨4, nd, na, b⟩) (u := .int .i64 na) (j := 2) r0 (by rw [List.getElem?_set_self (by rw [HRL.out]; exact hlt)]) (by decide) rfl
            have r2 := owns_field (l := ⟨4, nd, na, b⟩) (l' := ⟨4, nd, na, nb⟩) (u := .int .i64 nb) (j := 3) r1 (by rw [List.getElem?_set_self (by rw [List.length_set, HRL.out]; exact hlt)]) (by decide) rfl
            have hsn := renN_succ (ot := ot) HL.out
            have hre : renL ot ⟨4, d, a, b⟩ = ⟨4, nd, na, nb⟩ := by unfold renL; simp [HW.out, HNd.out, HNa.out, HNb.out]
            simp only [List.set_set] at r2
            rw [hre] at hsn
            rw [← hsn] at r2
            rw [renN_length] at r2
            refine ⟨k + 1, by omega, by go_num, (Below.setCell (Below.setCell (Below.setCell HG4.out hgw _) hgw _) hgw _).drew, e, ?_⟩
            rw [renN_length]
            exact ((Grow.refl _).drew).owns r2
          case measure => simp [intOf]; omega
        · have hwv : wrB 5 = true := rfl
          have HW := Lib.hid hwv
          obtain ⟨d0, d3⟩ := od hwv
          have hvd := ord_at HOO.out d0 d3
          obtain ⟨nd, hnd⟩ : ∃ n, toF ot d = n := ⟨_, rfl⟩
          rw [hnd] at hvd
          have HNd := Lib.hid hnd
          obtain ⟨tb, to_, rfl, htb, cd⟩ := ints_at HT.out hvd
          clear cd
          obtain ⟨_, _, et, htbd, cd⟩ := ints_at (HT.out.grow HG.out) hvd
          cases et
          have bd4 : d < (ot.length : Int) := by rw [HOT.out]; omega
          have bd5 : d.toNat < ot.length := by rw [HOT.out]; omega
          obtain ⟨a0, a3⟩ := oa (by omega)
          have hva := ord_at HOO.out a0 a3
          obtain ⟨na, hna⟩ : ∃ n, toF ot a = n := ⟨_, rfl⟩
          rw [hna] at hva
          have HNa := Lib.hid hna
          obtain ⟨_, _, et, htba, ca⟩ := ints_at (HT.out.grow HG.out) hva
          cases et
          have ba4 : a < (ot.length : Int) := by rw [HOT.out]; omega
          have ba5 : a.toNat < ot.length := by rw [HOT.out]; omega
          obtain ⟨b0, b3⟩ := ob (by omega)
          have hvb := ord_at HOO.out b0 b3
          obtain ⟨nb, hnb⟩ : ∃ n, toF ot b = n := ⟨_, rfl⟩
          rw [hnb] at hvb
          have HNb := Lib.hid hnb
          obtain ⟨_, _, et, htbb, cb⟩ := ints_at (HT.out.grow HG.out) hvb
          cases et
          have bb4 : b < (ot.length : Int) := by rw [HOT.out]; omega
          have bb5 : b.toNat < ot.length := by rw [HOT.out]; omega
          have hnt1 : tb ≠ g := by omega
          have hnt2 : g ≠ tb := by omega
          clear hvd hnd hva hna hvb hnb
          clear hwv od oa ob
          go_wp2_with fail
          refine writes_any 5 d a b _ _ ?_
          intro w4 hg4
          rw [HW.out]
          have hrow4 := hg4.owns HROW.out
          obtain ⟨l0, l1, l2, l3⟩ := own_cells hrow4 k _ (renN_at HL.out)
          have y1 := ownsRow_free hrow4 (k * 4 + 1)
          have y2 := ownsRow_free hrow4 (k * 4 + 2)
          have y3 := ownsRow_free hrow4 (k * 4 + 3)
          have id := hg4.cell cd
          have ia := hg4.cell ca
          have ib := hg4.cell cb
          have HROW4 := Lib.hid hrow4
          have HG4 := Lib.hid (HG.out.trans hg4)
          have hgw : w.heap.size ≤ g := by omega
          have hgl4 : g < w4.heap.size := by have := hg4.sz; omega
          have htl4 : tb < w4.heap.size := by have := hg4.sz; omega
          clear hg4 hrow4 k0 k1 k2 k3 z1 z2 z3 cd ca cb
          go_wp2_with fail
          go_region
          go_wp2_with fail
          go_roundw
          case rel =>
            have r0 := owns_field (l := ⟨5, d, a, b⟩) (l' := ⟨5, nd, a, b⟩) (u := .int .i64 nd) (j := 1) HROW4.out (renN_at HL.out) (by decide) rfl
            have r1 := owns_field (l := ⟨5, nd, a, b⟩) (l' := ⟨5, nd, na, b⟩) (u := .int .i64 na) (j := 2) r0 (by rw [List.getElem?_set_self (by rw [HRL.out]; exact hlt)]) (by decide) rfl
            have r2 := owns_field (l := ⟨5, nd, na, b⟩) (l' := ⟨5, nd, na, nb⟩) (u := .int .i64 nb) (j := 3) r1 (by rw [List.getElem?_set_self (by rw [List.length_set, HRL.out]; exact hlt)]) (by decide) rfl
            have hsn := renN_succ (ot := ot) HL.out
            have hre : renL ot ⟨5, d, a, b⟩ = ⟨5, nd, na, nb⟩ := by unfold renL; simp [HW.out, HNd.out, HNa.out, HNb.out]
            simp only [List.set_set] at r2
            rw [hre] at hsn
            rw [← hsn] at r2
            rw [renN_length] at r2
            refine ⟨k + 1, by omega, by go_num, (Below.setCell (Below.setCell (Below.setCell HG4.out hgw _) hgw _) hgw _).drew, e, ?_⟩
            rw [renN_length]
            exact ((Grow.refl _).drew).owns r2
          case measure => simp [intOf]; omega
        · have hwv : wrB 6 = true := rfl
          have HW := Lib.hid hwv
          obtain ⟨d0, d3⟩ := od hwv
          have hvd := ord_at HOO.out d0 d3
          obtain ⟨nd, hnd⟩ : ∃ n, toF ot d = n := ⟨_, rfl⟩
          rw [hnd] at hvd
          have HNd := Lib.hid hnd
          obtain ⟨tb, to_, rfl, htb, cd⟩ := ints_at HT.out hvd
          clear cd
          obtain ⟨_, _, et, htbd, cd⟩ := ints_at (HT.out.grow HG.out) hvd
          cases et
          have bd4 : d < (ot.length : Int) := by rw [HOT.out]; omega
          have bd5 : d.toNat < ot.length := by rw [HOT.out]; omega
          obtain ⟨a0, a3⟩ := oa (by omega)
          have hva := ord_at HOO.out a0 a3
          obtain ⟨na, hna⟩ : ∃ n, toF ot a = n := ⟨_, rfl⟩
          rw [hna] at hva
          have HNa := Lib.hid hna
          obtain ⟨_, _, et, htba, ca⟩ := ints_at (HT.out.grow HG.out) hva
          cases et
          have ba4 : a < (ot.length : Int) := by rw [HOT.out]; omega
          have ba5 : a.toNat < ot.length := by rw [HOT.out]; omega
          obtain ⟨b0, b3⟩ := ob (by omega)
          have hvb := ord_at HOO.out b0 b3
          obtain ⟨nb, hnb⟩ : ∃ n, toF ot b = n := ⟨_, rfl⟩
          rw [hnb] at hvb
          have HNb := Lib.hid hnb
          obtain ⟨_, _, et, htbb, cb⟩ := ints_at (HT.out.grow HG.out) hvb
          cases et
          have bb4 : b < (ot.length : Int) := by rw [HOT.out]; omega
          have bb5 : b.toNat < ot.length := by rw [HOT.out]; omega
          have hnt1 : tb ≠ g := by omega
          have hnt2 : g ≠ tb := by omega
          clear hvd hnd hva hna hvb hnb
          clear hwv od oa ob
          go_wp2_with fail
          refine writes_any 6 d a b _ _ ?_
          intro w4 hg4
          rw [HW.out]
          have hrow4 := hg4.owns HROW.out
          obtain ⟨l0, l1, l2, l3⟩ := own_cells hrow4 k _ (renN_at HL.out)
          have y1 := ownsRow_free hrow4 (k * 4 + 1)
          have y2 := ownsRow_free hrow4 (k * 4 + 2)
          have y3 := ownsRow_free hrow4 (k * 4 + 3)
          have id := hg4.cell cd
          have ia := hg4.cell ca
          have ib := hg4.cell cb
          have HROW4 := Lib.hid hrow4
          have HG4 := Lib.hid (HG.out.trans hg4)
          have hgw : w.heap.size ≤ g := by omega
          have hgl4 : g < w4.heap.size := by have := hg4.sz; omega
          have htl4 : tb < w4.heap.size := by have := hg4.sz; omega
          clear hg4 hrow4 k0 k1 k2 k3 z1 z2 z3 cd ca cb
          go_wp2_with fail
          go_region
          go_wp2_with fail
          go_roundw
          case rel =>
            have r0 := owns_field (l := ⟨6, d, a, b⟩) (l' := ⟨6, nd, a, b⟩) (u := .int .i64 nd) (j := 1) HROW4.out (renN_at HL.out) (by decide) rfl
            have r1 := owns_field (l := ⟨6, nd, a, b⟩) (l' := ⟨6, nd, na, b⟩) (u := .int .i64 na) (j := 2) r0 (by rw [List.getElem?_set_self (by rw [HRL.out]; exact hlt)]) (by decide) rfl
            have r2 := owns_field (l := ⟨6, nd, na, b⟩) (l' := ⟨6, nd, na, nb⟩) (u := .int .i64 nb) (j := 3) r1 (by rw [List.getElem?_set_self (by rw [List.length_set, HRL.out]; exact hlt)]) (by decide) rfl
            have hsn := renN_succ (ot := ot) HL.out
            have hre : renL ot ⟨6, d, a, b⟩ = ⟨6, nd, na, nb⟩ := by unfold renL; simp [HW.out, HNd.out, HNa.out, HNb.out]
            simp only [List.set_set] at r2
            rw [hre] at hsn
            rw [← hsn] at r2
            rw [renN_length] at r2
            refine ⟨k + 1, by omega, by go_num, (Below.setCell (Below.setCell (Below.setCell HG4.out hgw _) hgw _) hgw _).drew, e, ?_⟩
            rw [renN_length]
            exact ((Grow.refl _).drew).owns r2
          case measure => simp [intOf]; omega
        · have hwv : wrB 7 = false := rfl
          have HW := Lib.hid hwv
          obtain ⟨a0, a3⟩ := oa (by omega)
          have hva := ord_at HOO.out a0 a3
          obtain ⟨na, hna⟩ : ∃ n, toF ot a = n := ⟨_, rfl⟩
          rw [hna] at hva
          have HNa := Lib.hid hna
          obtain ⟨tb, to_, rfl, htb, ca⟩ := ints_at HT.out hva
          clear ca
          obtain ⟨_, _, et, htba, ca⟩ := ints_at (HT.out.grow HG.out) hva
          cases et
          have ba4 : a < (ot.length : Int) := by rw [HOT.out]; omega
          have ba5 : a.toNat < ot.length := by rw [HOT.out]; omega
          obtain ⟨b0, b3⟩ := ob (by omega)
          have hvb := ord_at HOO.out b0 b3
          obtain ⟨nb, hnb⟩ : ∃ n, toF ot b = n := ⟨_, rfl⟩
          rw [hnb] at hvb
          have HNb := Lib.hid hnb
          obtain ⟨_, _, et, htbb, cb⟩ := ints_at (HT.out.grow HG.out) hvb
          cases et
          have bb4 : b < (ot.length : Int) := by rw [HOT.out]; omega
          have bb5 : b.toNat < ot.length := by rw [HOT.out]; omega
          have hnt1 : tb ≠ g := by omega
          have hnt2 : g ≠ tb := by omega
          clear hva hna hvb hnb
          clear hwv od oa ob
          go_wp2_with fail
          refine writes_any 7 d a b _ _ ?_
          intro w4 hg4
          rw [HW.out]
          have hrow4 := hg4.owns HROW.out
          obtain ⟨l0, l1, l2, l3⟩ := own_cells hrow4 k _ (renN_at HL.out)
          have y1 := ownsRow_free hrow4 (k * 4 + 1)
          have y2 := ownsRow_free hrow4 (k * 4 + 2)
          have y3 := ownsRow_free hrow4 (k * 4 + 3)
          have ia := hg4.cell ca
          have ib := hg4.cell cb
          have HROW4 := Lib.hid hrow4
          have HG4 := Lib.hid (HG.out.trans hg4)
          have hgw : w.heap.size ≤ g := by omega
          have hgl4 : g < w4.heap.size := by have := hg4.sz; omega
          have htl4 : tb < w4.heap.size := by have := hg4.sz; omega
          clear hg4 hrow4 k0 k1 k2 k3 z1 z2 z3 ca cb
          go_wp2_with fail
          go_region
          go_wp2_with fail
          go_roundw
          case rel =>
            have r0 := owns_field (l := ⟨7, d, a, b⟩) (l' := ⟨7, d, na, b⟩) (u := .int .i64 na) (j := 2) HROW4.out (renN_at HL.out) (by decide) rfl
            have r1 := owns_field (l := ⟨7, d, na, b⟩) (l' := ⟨7, d, na, nb⟩) (u := .int .i64 nb) (j := 3) r0 (by rw [List.getElem?_set_self (by rw [HRL.out]; exact hlt)]) (by decide) rfl
            have hsn := renN_succ (ot := ot) HL.out
            have hre : renL ot ⟨7, d, a, b⟩ = ⟨7, d, na, nb⟩ := by unfold renL; simp [HW.out, HNa.out, HNb.out]
            simp only [List.set_set] at r1
            rw [hre] at hsn
            rw [← hsn] at r1
            rw [renN_length] at r1
            refine ⟨k + 1, by omega, by go_num, (Below.setCell (Below.setCell HG4.out hgw _) hgw _).drew, e, ?_⟩
            rw [renN_length]
            exact ((Grow.refl _).drew).owns r1
          case measure => simp [intOf]; omega
      · have hke : k = p.length := by omega
        subst hke
        have hfin : LinesAt wr (.slice xa p.length xc) (renP p ot) := by
          rw [← renN_all]
          have h : wr.ownsRow (w1).heap.size e 4 (.slice xa p.length xc) (renN p ot p.length).length ((renN p ot p.length).flatMap encL) := hrow
          exact slc_of_owns encL_len h
        have HF := Lib.hid (HR2.out wr _ HG.out hfin)
        clear hfin hrow hg
        go_wp2_with fail
        exact HF.out

set_option maxRecDepth 100000 in
set_option maxHeartbeats 16000000 in
theorem rRen_any (p : List Ln) (ot : List Int) (v u : Value) (w : World) (hp : LinesAt w v p) (ht : IntsAt w u ot) (R : Ending → World → Prop) (hR : ∀ w' x, Grow w w' → LinesAt w' x (renM p ot) → R (.returned (.tuple #[x, .int .i64 (renE p ot)])) w') :
    Calls Try.prog 54 #[v, u] w R := by
  have HP := Lib.hid hp
  have HT := Lib.hid ht
  have HR := Lib.hid hR
  obtain ⟨pa, pc, rfl, p1, p2, _⟩ := hp
  obtain ⟨ta, tc, rfl, t1, t2, _⟩ := ht
  clear hR
  by_cases hv : valP p = 0
  rotate_left
  · have hE : renE p ot = valP p := by unfold renE; rw [if_neg hv]
    have hM : renM p ot = [] := by unfold renM; rw [hE]; exact ifOK_err hv _
    have HRR := HR.out
    rw [hM, hE] at HRR
    generalize he : valP p = e at hv HRR
    have HR2 := Lib.hid HRR
    have HVE := Lib.hid he
    have t1 : (e == 0) = false := by simpa using hv
    have t2 : (e != 0) = true := by simpa using hv
    clear HRR HR hE hM he
    go_enter Try.func54, Try.ntmps54
    go_wp2_with fail
    refine rValidate_any p _ _ HP.out _ ?_
    intro w1 hg1
    rw [HVE.out]
    go_wp2_with fail
    exact HR2.out _ _ hg1 (SlcAt.nil _ _ _)
  have HV := Lib.hid hv
  have hp8 := (valP_ok.1 hv).1
  obtain ⟨oo, hoo⟩ : ∃ z, isOrd ot = z := ⟨_, rfl⟩
  have HOO := Lib.hid hoo
  cases oo with
  | false =>
    have hE : renE p ot = 1 := by unfold renE; rw [if_pos hv, hoo]; rfl
    have hM : renM p ot = [] := by unfold renM; rw [hE]; exact ifOK_err (by decide) _
    have HRR := HR.out
    rw [hM, hE] at HRR
    have HR2 := Lib.hid HRR
    clear HRR HR hE hM hoo hv
    go_enter Try.func54, Try.ntmps54
    go_wp2_with fail
    refine rValidate_any p _ _ HP.out _ ?_
    intro w1 hg1
    rw [HV.out]
    go_wp2_with fail
    refine rIsOrder_any ot _ _ (HT.out.grow hg1) _ ?_
    intro w2 hg2
    rw [HOO.out]
    go_wp2_with fail
    exact HR2.out _ _ (hg1.trans hg2) (SlcAt.nil _ _ _)
  | true =>
    have hE : renE p ot = 0 := by unfold renE; rw [if_pos hv, hoo]; rfl
    have hM : renM p ot = renP p ot := by unfold renM; rw [hE]; rfl
    have HRR := HR.out
    rw [hM, hE] at HRR
    have HR2 := Lib.hid HRR
    have hot := isOrd_len4 hoo
    have HOT := Lib.hid hot
    clear HRR HR hE hM hoo hv hot
    go_enter Try.func54, Try.ntmps54
    go_wp2_with fail
    refine rValidate_any p _ _ HP.out _ ?_
    intro w1 hg1
    rw [HV.out]
    go_wp2_with fail
    refine rIsOrder_any ot _ _ (HT.out.grow hg1) _ ?_
    intro w2 hg2
    rw [HOO.out]
    have HG1 := Lib.hid (show Grow w w2 from (hg1.trans hg2))
    go_wp2_with fail
    refine rcopy_any p _ _ (HP.out.grow HG1.out) (by omega) _ ?_
    intro w3 x3 hg3 hown
    have HG3 := Lib.hid (HG1.out.trans hg3)
    have hsz := HG1.out.sz
    obtain ⟨xa, xc, rfl, _, _, _⟩ := hown.slc encL_len
    have HO3 := Lib.hid hown
    clear hg3 hown
    go_wp2_with fail
    go_loopw [8] (fun i wr => ∃ k : Nat, k ≤ p.length ∧ i = .int .i64 k ∧ Grow w wr ∧ ∃ e, wr.ownsRow (w2).heap.size e 4 (.slice xa p.length xc) (renN p ot k).length ((renN p ot k).flatMap encL)) (fun i _ => p.length - (intOf i).toNat)
    case atStart =>
      obtain ⟨e, h⟩ := HO3.out
      exact ⟨0, by omega, rfl, HG3.out, e, by rw [renN_zero]; exact h⟩
    case round =>
      obtain ⟨k, hk, rfl, hg, e, hrow⟩ := hrel
      have HG := Lib.hid hg
      by_cases hlt : k < p.length
      · obtain ⟨⟨op, d, a, b⟩, hl⟩ : ∃ l, p[k]? = some l := ⟨_, List.getElem?_eq_getElem hlt⟩
        have hok := (valP_ok.1 HV.out).2 _ (List.mem_of_getElem? hl)
        obtain ⟨o0, o7, od, _⟩ := ok_rd hok
        obtain ⟨oa, ob⟩ := ok_args (op := op) (d := d) (a := a) (b := b) hok
        have hwb := wrB_of_ok (op := op) (d := d) (a := a) (b := b) hok
        have hrl : (renN p ot k).length = p.length := renN_length p ot k
        obtain ⟨g, cap, hxv, hgb, hgl⟩ : ∃ g cap, Value.slice xa p.length xc = .slice (some ⟨g, 0, none⟩) p.length cap ∧ (w2).heap.size ≤ g ∧ g < wr.heap.size := by
          rcases hrow.2 with ⟨_, h0⟩ | ⟨g, cap, cur, h1, hg2, hh, _⟩
          · omega
          · rw [hrl] at h1; exact ⟨g, cap, h1, hg2, lt_of_block hh⟩
        cases hxv
        rw [← hrl] at hrow
        rw [hrl] at hrow
        have hrow2 : wr.ownsRow (w2).heap.size e 4 (.slice (some ⟨g, 0, none⟩) (renN p ot k).length xc) (renN p ot k).length ((renN p ot k).flatMap encL) := by rw [hrl]; exact hrow
        obtain ⟨k0, k1, k2, k3⟩ := own_cells hrow2 k _ (renN_at hl)
        have z1 := ownsRow_free hrow2 (k * 4 + 1)
        have z2 := ownsRow_free hrow2 (k * 4 + 2)
        have z3 := ownsRow_free hrow2 (k * 4 + 3)
        have HROW := Lib.hid hrow2
        have HL := Lib.hid hl
        have HRL := Lib.hid hrl
        have HWB := Lib.hid hwb
        clear hg hrow hrow2 hl hok hrl hwb
        obtain ⟨pb, po, rfl, hpb, f0, f1, f2, f3⟩ := lines_at HP.out HL.out
        clear f0 f1 f2 f3
        obtain ⟨_, _, epb, _, f0, f1, f2, f3⟩ := lines_at (HP.out.grow HG.out) HL.out
        cases epb
        have hne1 : pb ≠ g := by omega
        have hne2 : g ≠ pb := by omega
        have hop : op = 0 ∨ op = 1 ∨ op = 2 ∨ op = 3 ∨ op = 4 ∨ op = 5 ∨ op = 6 ∨ op = 7 := by omega
        rcases hop with rfl | rfl | rfl | rfl | rfl | rfl | rfl | rfl
        · have hwv : wrB 0 = false := rfl
          have HW := Lib.hid hwv
          clear hwv od oa ob
          go_wp2_with fail
          refine rwrites_any 0 d a b _ _ ?_
          intro w4 hg4
          rw [HWB.out, HW.out]
          have hrow4 := hg4.owns HROW.out
          obtain ⟨l0, l1, l2, l3⟩ := own_cells hrow4 k _ (renN_at HL.out)
          have y1 := ownsRow_free hrow4 (k * 4 + 1)
          have y2 := ownsRow_free hrow4 (k * 4 + 2)
          have y3 := ownsRow_free hrow4 (k * 4 + 3)
          have m0 := hg4.cell f0
          have m1 := hg4.cell f1
          have m2 := hg4.cell f2
          have m3 := hg4.cell f3
          have HROW4 := Lib.hid hrow4
          have HG4 := Lib.hid (HG.out.trans hg4)
          have hgw : w.heap.size ≤ g := by omega
          have hgl4 : g < w4.heap.size := by have := hg4.sz; omega
          have hpl4 : pb < w4.heap.size := by have := hg4.sz; omega
          clear hg4 hrow4 k0 k1 k2 k3 z1 z2 z3 f0 f1 f2 f3
          go_wp2_with fail
          go_roundw
          case rel =>
            have hsn := renN_succ (ot := ot) HL.out
            have hre : renL ot ⟨0, d, a, b⟩ = ⟨0, d, a, b⟩ := rfl
            have hid : (renN p ot k).set k ⟨0, d, a, b⟩ = renN p ot k := List.set_getElem_self_of (renN_at HL.out)
            rw [hre, hid] at hsn
            have r9 := HROW4.out
            rw [← hsn] at r9
            rw [renN_length] at r9
            refine ⟨k + 1, by omega, by go_num, HG4.out, e, ?_⟩
            rw [renN_length]
            exact r9
          case measure => simp [intOf]; omega
        · have hwv : wrB 1 = true := rfl
          have HW := Lib.hid hwv
          obtain ⟨d0, d3⟩ := od hwv
          have hvd := ord_at HOO.out d0 d3
          obtain ⟨nd, hnd⟩ : ∃ n, toF ot d = n := ⟨_, rfl⟩
          rw [hnd] at hvd
          have HNd := Lib.hid hnd
          obtain ⟨tb, to_, rfl, htb, cd⟩ := ints_at HT.out hvd
          clear cd
          obtain ⟨_, _, et, htbd, cd⟩ := ints_at (HT.out.grow HG.out) hvd
          cases et
          have bd4 : d < (ot.length : Int) := by rw [HOT.out]; omega
          have bd5 : d.toNat < ot.length := by rw [HOT.out]; omega
          have hnt1 : tb ≠ g := by omega
          have hnt2 : g ≠ tb := by omega
          clear hvd hnd
          clear hwv od oa ob
          go_wp2_with fail
          refine rwrites_any 1 d a b _ _ ?_
          intro w4 hg4
          rw [HWB.out, HW.out]
          have hrow4 := hg4.owns HROW.out
          obtain ⟨l0, l1, l2, l3⟩ := own_cells hrow4 k _ (renN_at HL.out)
          have y1 := ownsRow_free hrow4 (k * 4 + 1)
          have y2 := ownsRow_free hrow4 (k * 4 + 2)
          have y3 := ownsRow_free hrow4 (k * 4 + 3)
          have id := hg4.cell cd
          have m0 := hg4.cell f0
          have m1 := hg4.cell f1
          have m2 := hg4.cell f2
          have m3 := hg4.cell f3
          have HROW4 := Lib.hid hrow4
          have HG4 := Lib.hid (HG.out.trans hg4)
          have hgw : w.heap.size ≤ g := by omega
          have hgl4 : g < w4.heap.size := by have := hg4.sz; omega
          have htl4 : tb < w4.heap.size := by have := hg4.sz; omega
          have hpl4 : pb < w4.heap.size := by have := hg4.sz; omega
          clear hg4 hrow4 k0 k1 k2 k3 z1 z2 z3 cd f0 f1 f2 f3
          go_wp2_with fail
          go_roundw
          case rel =>
            have r0 := owns_field (l := ⟨1, d, a, b⟩) (l' := ⟨1, nd, a, b⟩) (u := .int .i64 nd) (j := 1) HROW4.out (renN_at HL.out) (by decide) rfl
            have hsn := renN_succ (ot := ot) HL.out
            have hre : renL ot ⟨1, d, a, b⟩ = ⟨1, nd, a, b⟩ := by unfold renL; simp [HW.out, HNd.out]
            rw [hre] at hsn
            rw [← hsn] at r0
            rw [renN_length] at r0
            refine ⟨k + 1, by omega, by go_num, (Below.setCell HG4.out hgw _), e, ?_⟩
            rw [renN_length]
            exact r0
          case measure => simp [intOf]; omega
        · have hwv : wrB 2 = true := rfl
          have HW := Lib.hid hwv
          obtain ⟨d0, d3⟩ := od hwv
          have hvd := ord_at HOO.out d0 d3
          obtain ⟨nd, hnd⟩ : ∃ n, toF ot d = n := ⟨_, rfl⟩
          rw [hnd] at hvd
          have HNd := Lib.hid hnd
          obtain ⟨tb, to_, rfl, htb, cd⟩ := ints_at HT.out hvd
          clear cd
          obtain ⟨_, _, et, htbd, cd⟩ := ints_at (HT.out.grow HG.out) hvd
          cases et
          have bd4 : d < (ot.length : Int) := by rw [HOT.out]; omega
          have bd5 : d.toNat < ot.length := by rw [HOT.out]; omega
          obtain ⟨a0, a3⟩ := oa (by omega)
          have hva := ord_at HOO.out a0 a3
          obtain ⟨na, hna⟩ : ∃ n, toF ot a = n := ⟨_, rfl⟩
          rw [hna] at hva
          have HNa := Lib.hid hna
          obtain ⟨_, _, et, htba, ca⟩ := ints_at (HT.out.grow HG.out) hva
          cases et
          have ba4 : a < (ot.length : Int) := by rw [HOT.out]; omega
          have ba5 : a.toNat < ot.length := by rw [HOT.out]; omega
          have hnt1 : tb ≠ g := by omega
          have hnt2 : g ≠ tb := by omega
          clear hvd hnd hva hna
          clear hwv od oa ob
          go_wp2_with fail
          refine rwrites_any 2 d a b _ _ ?_
          intro w4 hg4
          rw [HWB.out, HW.out]
          have hrow4 := hg4.owns HROW.out
          obtain ⟨l0, l1, l2, l3⟩ := own_cells hrow4 k _ (renN_at HL.out)
          have y1 := ownsRow_free hrow4 (k * 4 + 1)
          have y2 := ownsRow_free hrow4 (k * 4 + 2)
          have y3 := ownsRow_free hrow4 (k * 4 + 3)
          have id := hg4.cell cd
          have ia := hg4.cell ca
          have m0 := hg4.cell f0
          have m1 := hg4.cell f1
          have m2 := hg4.cell f2
          have m3 := hg4.cell f3
          have HROW4 := Lib.hid hrow4
          have HG4 := Lib.hid (HG.out.trans hg4)
          have hgw : w.heap.size ≤ g := by omega
          have hgl4 : g < w4.heap.size := by have := hg4.sz; omega
          have htl4 : tb < w4.heap.size := by have := hg4.sz; omega
          have hpl4 : pb < w4.heap.size := by have := hg4.sz; omega
          clear hg4 hrow4 k0 k1 k2 k3 z1 z2 z3 cd ca f0 f1 f2 f3
          go_wp2_with fail
          go_roundw
          case rel =>
            have r0 := owns_field (l := ⟨2, d, a, b⟩) (l' := ⟨2, nd, a, b⟩) (u := .int .i64 nd) (j := 1) HROW4.out (renN_at HL.out) (by decide) rfl
            have r1 := owns_field (l := ⟨2, nd, a, b⟩) (l' := ⟨2, nd, na, b⟩) (u := .int .i64 na) (j := 2) r0 (by rw [List.getElem?_set_self (by rw [HRL.out]; exact hlt)]) (by decide) rfl
            have hsn := renN_succ (ot := ot) HL.out
            have hre : renL ot ⟨2, d, a, b⟩ = ⟨2, nd, na, b⟩ := by unfold renL; simp [HW.out, HNd.out, HNa.out]
            simp only [List.set_set] at r1
            rw [hre] at hsn
            rw [← hsn] at r1
            rw [renN_length] at r1
            refine ⟨k + 1, by omega, by go_num, (Below.setCell (Below.setCell HG4.out hgw _) hgw _), e, ?_⟩
            rw [renN_length]
            exact r1
          case measure => simp [intOf]; omega
        · have hwv : wrB 3 = true := rfl
          have HW := Lib.hid hwv
          obtain ⟨d0, d3⟩ := od hwv
          have hvd := ord_at HOO.out d0 d3
          obtain ⟨nd, hnd⟩ : ∃ n, toF ot d = n := ⟨_, rfl⟩
          rw [hnd] at hvd
          have HNd := Lib.hid hnd
          obtain ⟨tb, to_, rfl, htb, cd⟩ := ints_at HT.out hvd
          clear cd
          obtain ⟨_, _, et, htbd, cd⟩ := ints_at (HT.out.grow HG.out) hvd
          cases et
          have bd4 : d < (ot.length : Int) := by rw [HOT.out]; omega
          have bd5 : d.toNat < ot.length := by rw [HOT.out]; omega
          obtain ⟨a0, a3⟩ := oa (by omega)
          have hva := ord_at HOO.out a0 a3
          obtain ⟨na, hna⟩ : ∃ n, toF ot a = n := ⟨_, rfl⟩
          rw [hna] at hva
          have HNa := Lib.hid hna
          obtain ⟨_, _, et, htba, ca⟩ := ints_at (HT.out.grow HG.out) hva
          cases et
          have ba4 : a < (ot.length : Int) := by rw [HOT.out]; omega
          have ba5 : a.toNat < ot.length := by rw [HOT.out]; omega
          obtain ⟨b0, b3⟩ := ob (by omega)
          have hvb := ord_at HOO.out b0 b3
          obtain ⟨nb, hnb⟩ : ∃ n, toF ot b = n := ⟨_, rfl⟩
          rw [hnb] at hvb
          have HNb := Lib.hid hnb
          obtain ⟨_, _, et, htbb, cb⟩ := ints_at (HT.out.grow HG.out) hvb
          cases et
          have bb4 : b < (ot.length : Int) := by rw [HOT.out]; omega
          have bb5 : b.toNat < ot.length := by rw [HOT.out]; omega
          have hnt1 : tb ≠ g := by omega
          have hnt2 : g ≠ tb := by omega
          clear hvd hnd hva hna hvb hnb
          clear hwv od oa ob
          go_wp2_with fail
          refine rwrites_any 3 d a b _ _ ?_
          intro w4 hg4
          rw [HWB.out, HW.out]
          have hrow4 := hg4.owns HROW.out
          obtain ⟨l0, l1, l2, l3⟩ := own_cells hrow4 k _ (renN_at HL.out)
          have y1 := ownsRow_free hrow4 (k * 4 + 1)
          have y2 := ownsRow_free hrow4 (k * 4 + 2)
          have y3 := ownsRow_free hrow4 (k * 4 + 3)
          have id := hg4.cell cd
          have ia := hg4.cell ca
          have ib := hg4.cell cb
          have m0 := hg4.cell f0
          have m1 := hg4.cell f1
          have m2 := hg4.cell f2
          have m3 := hg4.cell f3
          have HROW4 := Lib.hid hrow4
          have HG4 := Lib.hid (HG.out.trans hg4)
          have hgw : w.heap.size ≤ g := by omega
          have hgl4 : g < w4.heap.size := by have := hg4.sz; omega
          have htl4 : tb < w4.heap.size := by have := hg4.sz; omega
          have hpl4 : pb < w4.heap.size := by have := hg4.sz; omega
          clear hg4 hrow4 k0 k1 k2 k3 z1 z2 z3 cd ca cb f0 f1 f2 f3
          go_wp2_with fail
          go_roundw
          case rel =>
            have r0 := owns_field (l := ⟨3, d, a, b⟩) (l' := ⟨3, nd, a, b⟩) (u := .int .i64 nd) (j := 1) HROW4.out (renN_at HL.out) (by decide) rfl
            have r1 := owns_field (l := ⟨3, nd, a, b⟩) (l' := ⟨3, nd, na, b⟩) (u := .int .i64 na) (j := 2) r0 (by rw [List.getElem?_set_self (by rw [HRL.out]; exact hlt)]) (by decide) rfl
            have r2 := owns_field (l := ⟨3, nd, na, b⟩) (l' := ⟨3, nd, na, nb⟩) (u := .int .i64 nb) (j := 3) r1 (by rw [List.getElem?_set_self (by rw [List.length_set, HRL.out]; exact hlt)]) (by decide) rfl
            have hsn := renN_succ (ot := ot) HL.out
            have hre : renL ot ⟨3, d, a, b⟩ = ⟨3, nd, na, nb⟩ := by unfold renL; simp [HW.out, HNd.out, HNa.out, HNb.out]
            simp only [List.set_set] at r2
            rw [hre] at hsn
            rw [← hsn] at r2
            rw [renN_length] at r2
            refine ⟨k + 1, by omega, by go_num, (Below.setCell (Below.setCell (Below.setCell HG4.out hgw _) hgw _) hgw _), e, ?_⟩
            rw [renN_length]
            exact r2
          case measure => simp [intOf]; omega
        · have hwv : wrB 4 = true := rfl
          have HW := Lib.hid hwv
          obtain ⟨d0, d3⟩ := od hwv
          have hvd := ord_at HOO.out d0 d3
          obtain ⟨nd, hnd⟩ : ∃ n, toF ot d = n := ⟨_, rfl⟩
          rw [hnd] at hvd
          have HNd := Lib.hid hnd
          obtain ⟨tb, to_, rfl, htb, cd⟩ := ints_at HT.out hvd
          clear cd
          obtain ⟨_, _, et, htbd, cd⟩ := ints_at (HT.out.grow HG.out) hvd
          cases et
          have bd4 : d < (ot.length : Int) := by rw [HOT.out]; omega
          have bd5 : d.toNat < ot.length := by rw [HOT.out]; omega
          obtain ⟨a0, a3⟩ := oa (by omega)
          have hva := ord_at HOO.out a0 a3
          obtain ⟨na, hna⟩ : ∃ n, toF ot a = n := ⟨_, rfl⟩
          rw [hna] at hva
          have HNa := Lib.hid hna
          obtain ⟨_, _, et, htba, ca⟩ := ints_at (HT.out.grow HG.out) hva
          cases et
          have ba4 : a < (ot.length : Int) := by rw [HOT.out]; omega
          have ba5 : a.toNat < ot.length := by rw [HOT.out]; omega
          obtain ⟨b0, b3⟩ := ob (by omega)
          have hvb := ord_at HOO.out b0 b3
          obtain ⟨nb, hnb⟩ : ∃ n, toF ot b = n := ⟨_, rfl⟩
          rw [hnb] at hvb
          have HNb := Lib.hid hnb
          obtain ⟨_, _, et, htbb, cb⟩ := ints_at (HT.out.grow HG.out) hvb
          cases et
          have bb4 : b < (ot.length : Int) := by rw [HOT.out]; omega
          have bb5 : b.toNat < ot.length := by rw [HOT.out]; omega
          have hnt1 : tb ≠ g := by omega
          have hnt2 : g ≠ tb := by omega
          clear hvd hnd hva hna hvb hnb
          clear hwv od oa ob
          go_wp2_with fail
          refine rwrites_any 4 d a b _ _ ?_
          intro w4 hg4
          rw [HWB.out, HW.out]
          have hrow4 := hg4.owns HROW.out
          obtain ⟨l0, l1, l2, l3⟩ := own_cells hrow4 k _ (renN_at HL.out)
          have y1 := ownsRow_free hrow4 (k * 4 + 1)
          have y2 := ownsRow_free hrow4 (k * 4 + 2)
          have y3 := ownsRow_free hrow4 (k * 4 + 3)
          have id := hg4.cell cd
          have ia := hg4.cell ca
          have ib := hg4.cell cb
          have m0 := hg4.cell f0
          have m1 := hg4.cell f1
          have m2 := hg4.cell f2
          have m3 := hg4.cell f3
          have HROW4 := Lib.hid hrow4
          have HG4 := Lib.hid (HG.out.trans hg4)
          have hgw : w.heap.size ≤ g := by omega
          have hgl4 : g < w4.heap.size := by have := hg4.sz; omega
          have htl4 : tb < w4.heap.size := by have := hg4.sz; omega
          have hpl4 : pb < w4.heap.size := by have := hg4.sz; omega
          clear hg4 hrow4 k0 k1 k2 k3 z1 z2 z3 cd ca cb f0 f1 f2 f3
          go_wp2_with fail
          go_roundw
          case rel =>
            have r0 := owns_field (l := ⟨4, d, a, b⟩) (l' := ⟨4, nd, a, b⟩) (u := .int .i64 nd) (j := 1) HROW4.out (renN_at HL.out) (by decide) rfl
            have r1 := owns_field (l := ⟨4, nd, a, b⟩) (l' := ⟨4, nd, na, b⟩) (u := .int .i64 na) (j := 2) r0 (by rw [List.getElem?_set_self (by rw [HRL.out]; exact hlt)]) (by decide) rfl
            have r2 := owns_field (l := ⟨4, nd, na, b⟩) (l' := ⟨4, nd, na, nb⟩) (u := .int .i64 nb) (j := 3) r1 (by rw [List.getElem?_set_self (by rw [List.length_set, HRL.out]; exact hlt)]) (by decide) rfl
            have hsn := renN_succ (ot := ot) HL.out
            have hre : renL ot ⟨4, d, a, b⟩ = ⟨4, nd, na, nb⟩ := by unfold renL; simp [HW.out, HNd.out, HNa.out, HNb.out]
            simp only [List.set_set] at r2
            rw [hre] at hsn
            rw [← hsn] at r2
            rw [renN_length] at r2
            refine ⟨k + 1, by omega, by go_num, (Below.setCell (Below.setCell (Below.setCell HG4.out hgw _) hgw _) hgw _), e, ?_⟩
            rw [renN_length]
            exact r2
          case measure => simp [intOf]; omega
        · have hwv : wrB 5 = true := rfl
          have HW := Lib.hid hwv
          obtain ⟨d0, d3⟩ := od hwv
          have hvd := ord_at HOO.out d0 d3
          obtain ⟨nd, hnd⟩ : ∃ n, toF ot d = n := ⟨_, rfl⟩
          rw [hnd] at hvd
          have HNd := Lib.hid hnd
          obtain ⟨tb, to_, rfl, htb, cd⟩ := ints_at HT.out hvd
          clear cd
          obtain ⟨_, _, et, htbd, cd⟩ := ints_at (HT.out.grow HG.out) hvd
          cases et
          have bd4 : d < (ot.length : Int) := by rw [HOT.out]; omega
          have bd5 : d.toNat < ot.length := by rw [HOT.out]; omega
          obtain ⟨a0, a3⟩ := oa (by omega)
          have hva := ord_at HOO.out a0 a3
          obtain ⟨na, hna⟩ : ∃ n, toF ot a = n := ⟨_, rfl⟩
          rw [hna] at hva
          have HNa := Lib.hid hna
          obtain ⟨_, _, et, htba, ca⟩ := ints_at (HT.out.grow HG.out) hva
          cases et
          have ba4 : a < (ot.length : Int) := by rw [HOT.out]; omega
          have ba5 : a.toNat < ot.length := by rw [HOT.out]; omega
          obtain ⟨b0, b3⟩ := ob (by omega)
          have hvb := ord_at HOO.out b0 b3
          obtain ⟨nb, hnb⟩ : ∃ n, toF ot b = n := ⟨_, rfl⟩
          rw [hnb] at hvb
          have HNb := Lib.hid hnb
          obtain ⟨_, _, et, htbb, cb⟩ := ints_at (HT.out.grow HG.out) hvb
          cases et
          have bb4 : b < (ot.length : Int) := by rw [HOT.out]; omega
          have bb5 : b.toNat < ot.length := by rw [HOT.out]; omega
          have hnt1 : tb ≠ g := by omega
          have hnt2 : g ≠ tb := by omega
          clear hvd hnd hva hna hvb hnb
          clear hwv od oa ob
          go_wp2_with fail
          refine rwrites_any 5 d a b _ _ ?_
          intro w4 hg4
          rw [HWB.out, HW.out]
          have hrow4 := hg4.owns HROW.out
          obtain ⟨l0, l1, l2, l3⟩ := own_cells hrow4 k _ (renN_at HL.out)
          have y1 := ownsRow_free hrow4 (k * 4 + 1)
          have y2 := ownsRow_free hrow4 (k * 4 + 2)
          have y3 := ownsRow_free hrow4 (k * 4 + 3)
          have id := hg4.cell cd
          have ia := hg4.cell ca
          have ib := hg4.cell cb
          have m0 := hg4.cell f0
          have m1 := hg4.cell f1
          have m2 := hg4.cell f2
          have m3 := hg4.cell f3
          have HROW4 := Lib.hid hrow4
          have HG4 := Lib.hid (HG.out.trans hg4)
          have hgw : w.heap.size ≤ g := by omega
          have hgl4 : g < w4.heap.size := by have := hg4.sz; omega
          have htl4 : tb < w4.heap.size := by have := hg4.sz; omega
          have hpl4 : pb < w4.heap.size := by have := hg4.sz; omega
          clear hg4 hrow4 k0 k1 k2 k3 z1 z2 z3 cd ca cb f0 f1 f2 f3
          go_wp2_with fail
          go_roundw
          case rel =>
            have r0 := owns_field (l := ⟨5, d, a, b⟩) (l' := ⟨5, nd, a, b⟩) (u := .int .i64 nd) (j := 1) HROW4.out (renN_at HL.out) (by decide) rfl
            have r1 := owns_field (l := ⟨5, nd, a, b⟩) (l' := ⟨5, nd, na, b⟩) (u := .int .i64 na) (j := 2) r0 (by rw [List.getElem?_set_self (by rw [HRL.out]; exact hlt)]) (by decide) rfl
            have r2 := owns_field (l := ⟨5, nd, na, b⟩) (l' := ⟨5, nd, na, nb⟩) (u := .int .i64 nb) (j := 3) r1 (by rw [List.getElem?_set_self (by rw [List.length_set, HRL.out]; exact hlt)]) (by decide) rfl
            have hsn := renN_succ (ot := ot) HL.out
            have hre : renL ot ⟨5, d, a, b⟩ = ⟨5, nd, na, nb⟩ := by unfold renL; simp [HW.out, HNd.out, HNa.out, HNb.out]
            simp only [List.set_set] at r2
            rw [hre] at hsn
            rw [← hsn] at r2
            rw [renN_length] at r2
            refine ⟨k + 1, by omega, by go_num, (Below.setCell (Below.setCell (Below.setCell HG4.out hgw _) hgw _) hgw _), e, ?_⟩
            rw [renN_length]
            exact r2
          case measure => simp [intOf]; omega
        · have hwv : wrB 6 = true := rfl
          have HW := Lib.hid hwv
          obtain ⟨d0, d3⟩ := od hwv
          have hvd := ord_at HOO.out d0 d3
          obtain ⟨nd, hnd⟩ : ∃ n, toF ot d = n := ⟨_, rfl⟩
          rw [hnd] at hvd
          have HNd := Lib.hid hnd
          obtain ⟨tb, to_, rfl, htb, cd⟩ := ints_at HT.out hvd
          clear cd
          obtain ⟨_, _, et, htbd, cd⟩ := ints_at (HT.out.grow HG.out) hvd
          cases et
          have bd4 : d < (ot.length : Int) := by rw [HOT.out]; omega
          have bd5 : d.toNat < ot.length := by rw [HOT.out]; omega
          obtain ⟨a0, a3⟩ := oa (by omega)
          have hva := ord_at HOO.out a0 a3
          obtain ⟨na, hna⟩ : ∃ n, toF ot a = n := ⟨_, rfl⟩
          rw [hna] at hva
          have HNa := Lib.hid hna
          obtain ⟨_, _, et, htba, ca⟩ := ints_at (HT.out.grow HG.out) hva
          cases et
          have ba4 : a < (ot.length : Int) := by rw [HOT.out]; omega
          have ba5 : a.toNat < ot.length := by rw [HOT.out]; omega
          obtain ⟨b0, b3⟩ := ob (by omega)
          have hvb := ord_at HOO.out b0 b3
          obtain ⟨nb, hnb⟩ : ∃ n, toF ot b = n := ⟨_, rfl⟩
          rw [hnb] at hvb
          have HNb := Lib.hid hnb
          obtain ⟨_, _, et, htbb, cb⟩ := ints_at (HT.out.grow HG.out) hvb
          cases et
          have bb4 : b < (ot.length : Int) := by rw [HOT.out]; omega
          have bb5 : b.toNat < ot.length := by rw [HOT.out]; omega
          have hnt1 : tb ≠ g := by omega
          have hnt2 : g ≠ tb := by omega
          clear hvd hnd hva hna hvb hnb
          clear hwv od oa ob
          go_wp2_with fail
          refine rwrites_any 6 d a b _ _ ?_
          intro w4 hg4
          rw [HWB.out, HW.out]
          have hrow4 := hg4.owns HROW.out
          obtain ⟨l0, l1, l2, l3⟩ := own_cells hrow4 k _ (renN_at HL.out)
          have y1 := ownsRow_free hrow4 (k * 4 + 1)
          have y2 := ownsRow_free hrow4 (k * 4 + 2)
          have y3 := ownsRow_free hrow4 (k * 4 + 3)
          have id := hg4.cell cd
          have ia := hg4.cell ca
          have ib := hg4.cell cb
          have m0 := hg4.cell f0
          have m1 := hg4.cell f1
          have m2 := hg4.cell f2
          have m3 := hg4.cell f3
          have HROW4 := Lib.hid hrow4
          have HG4 := Lib.hid (HG.out.trans hg4)
          have hgw : w.heap.size ≤ g := by omega
          have hgl4 : g < w4.heap.size := by have := hg4.sz; omega
          have htl4 : tb < w4.heap.size := by have := hg4.sz; omega
          have hpl4 : pb < w4.heap.size := by have := hg4.sz; omega
          clear hg4 hrow4 k0 k1 k2 k3 z1 z2 z3 cd ca cb f0 f1 f2 f3
          go_wp2_with fail
          go_roundw
          case rel =>
            have r0 := owns_field (l := ⟨6, d, a, b⟩) (l' := ⟨6, nd, a, b⟩) (u := .int .i64 nd) (j := 1) HROW4.out (renN_at HL.out) (by decide) rfl
            have r1 := owns_field (l := ⟨6, nd, a, b⟩) (l' := ⟨6, nd, na, b⟩) (u := .int .i64 na) (j := 2) r0 (by rw [List.getElem?_set_self (by rw [HRL.out]; exact hlt)]) (by decide) rfl
            have r2 := owns_field (l := ⟨6, nd, na, b⟩) (l' := ⟨6, nd, na, nb⟩) (u := .int .i64 nb) (j := 3) r1 (by rw [List.getElem?_set_self (by rw [List.length_set, HRL.out]; exact hlt)]) (by decide) rfl
            have hsn := renN_succ (ot := ot) HL.out
            have hre : renL ot ⟨6, d, a, b⟩ = ⟨6, nd, na, nb⟩ := by unfold renL; simp [HW.out, HNd.out, HNa.out, HNb.out]
            simp only [List.set_set] at r2
            rw [hre] at hsn
            rw [← hsn] at r2
            rw [renN_length] at r2
            refine ⟨k + 1, by omega, by go_num, (Below.setCell (Below.setCell (Below.setCell HG4.out hgw _) hgw _) hgw _), e, ?_⟩
            rw [renN_length]
            exact r2
          case measure => simp [intOf]; omega
        · have hwv : wrB 7 = false := rfl
          have HW := Lib.hid hwv
          obtain ⟨a0, a3⟩ := oa (by omega)
          have hva := ord_at HOO.out a0 a3
          obtain ⟨na, hna⟩ : ∃ n, toF ot a = n := ⟨_, rfl⟩
          rw [hna] at hva
          have HNa := Lib.hid hna
          obtain ⟨tb, to_, rfl, htb, ca⟩ := ints_at HT.out hva
          clear ca
          obtain ⟨_, _, et, htba, ca⟩ := ints_at (HT.out.grow HG.out) hva
          cases et
          have ba4 : a < (ot.length : Int) := by rw [HOT.out]; omega
          have ba5 : a.toNat < ot.length := by rw [HOT.out]; omega
          obtain ⟨b0, b3⟩ := ob (by omega)
          have hvb := ord_at HOO.out b0 b3
          obtain ⟨nb, hnb⟩ : ∃ n, toF ot b = n := ⟨_, rfl⟩
          rw [hnb] at hvb
          have HNb := Lib.hid hnb
          obtain ⟨_, _, et, htbb, cb⟩ := ints_at (HT.out.grow HG.out) hvb
          cases et
          have bb4 : b < (ot.length : Int) := by rw [HOT.out]; omega
          have bb5 : b.toNat < ot.length := by rw [HOT.out]; omega
          have hnt1 : tb ≠ g := by omega
          have hnt2 : g ≠ tb := by omega
          clear hva hna hvb hnb
          clear hwv od oa ob
          go_wp2_with fail
          refine rwrites_any 7 d a b _ _ ?_
          intro w4 hg4
          rw [HWB.out, HW.out]
          have hrow4 := hg4.owns HROW.out
          obtain ⟨l0, l1, l2, l3⟩ := own_cells hrow4 k _ (renN_at HL.out)
          have y1 := ownsRow_free hrow4 (k * 4 + 1)
          have y2 := ownsRow_free hrow4 (k * 4 + 2)
          have y3 := ownsRow_free hrow4 (k * 4 + 3)
          have ia := hg4.cell ca
          have ib := hg4.cell cb
          have m0 := hg4.cell f0
          have m1 := hg4.cell f1
          have m2 := hg4.cell f2
          have m3 := hg4.cell f3
          have HROW4 := Lib.hid hrow4
          have HG4 := Lib.hid (HG.out.trans hg4)
          have hgw : w.heap.size ≤ g := by omega
          have hgl4 : g < w4.heap.size := by have := hg4.sz; omega
          have htl4 : tb < w4.heap.size := by have := hg4.sz; omega
          have hpl4 : pb < w4.heap.size := by have := hg4.sz; omega
          clear hg4 hrow4 k0 k1 k2 k3 z1 z2 z3 ca cb f0 f1 f2 f3
          go_wp2_with fail
          go_roundw
          case rel =>
            have r0 := owns_field (l := ⟨7, d, a, b⟩) (l' := ⟨7, d, na, b⟩) (u := .int .i64 na) (j := 2) HROW4.out (renN_at HL.out) (by decide) rfl
            have r1 := owns_field (l := ⟨7, d, na, b⟩) (l' := ⟨7, d, na, nb⟩) (u := .int .i64 nb) (j := 3) r0 (by rw [List.getElem?_set_self (by rw [HRL.out]; exact hlt)]) (by decide) rfl
            have hsn := renN_succ (ot := ot) HL.out
            have hre : renL ot ⟨7, d, a, b⟩ = ⟨7, d, na, nb⟩ := by unfold renL; simp [HW.out, HNa.out, HNb.out]
            simp only [List.set_set] at r1
            rw [hre] at hsn
            rw [← hsn] at r1
            rw [renN_length] at r1
            refine ⟨k + 1, by omega, by go_num, (Below.setCell (Below.setCell HG4.out hgw _) hgw _), e, ?_⟩
            rw [renN_length]
            exact r1
          case measure => simp [intOf]; omega
      · have hke : k = p.length := by omega
        subst hke
        have hfin : LinesAt wr (.slice xa p.length xc) (renP p ot) := by
          rw [← renN_all]
          have h : wr.ownsRow (w2).heap.size e 4 (.slice xa p.length xc) (renN p ot p.length).length ((renN p ot p.length).flatMap encL) := hrow
          exact slc_of_owns encL_len h
        have HF := Lib.hid (HR2.out wr _ HG.out hfin)
        clear hfin hrow hg
        go_wp2_with fail
        exact HF.out

end Go.Proofs.Ytmaphlbmmemgcaa
