/-










-/
import Derived.Test.YtmeejlgnhfkeaaaGreatDoorL11
import Derived.Test.YtmeejlgnhfkeaaaGreatDoorL09
import Derived.Test.YtmeejlgnhfkeaaaGreatDoorL07
import Derived.Test.YtmeejlgnhfkeaaaGreatDoorL12
import Derived.Test.YtmeejlgnhfkeaaaGreatDoorL13
import Derived.Deep.QuietTactic
import Derived.BigQuiet
namespace Go.Proofs.YtmeejlgnhfkeaaaGreatDoor
open Go.RowKit
set_option maxHeartbeats 1000000 in
theorem sortLn_any (xs : List Ln) (g cap B : Nat) (w : World) (hrow : RowL w g 0 xs) (hg : g < w.heap.size) (hB : B ≤ g) (hn : xs.length < 4611686018427387904) (R : Ending → World → Prop)
  (hR : ∀ w' ys, Below B w w' → g < w'.heap.size → RowL w' g 0 ys → ys.length = xs.length → (∀ x, x ∈ ys ↔ x ∈ xs) → WeakL ys → R (.returned (.tuple #[])) w') :
  Calls Tryz.prog 298 #[.slice (some ⟨g, 0, none⟩) xs.length cap, .func (.func 282) #[] #[]] w R := by
 have eg : ∀ args w, (callFunc 282 args).run Tryz.prog w = .ok (.enter 282 args) w := enters_of Tryz.func282 (by kernel_rfl) rfl
 have hcon := AnyQ.slices_SortFunc Tryz.sortLn 4 Tryz.isAgg57 Tryz.sizeOf57 encL encL_len (fun x v hv => encL_one x v hv) cmpL swoL 282 #[] g 0 cap xs.toArray w eg (cmpL_lays g 0 _ w) hrow.holds hg (by simpa using hn)
 change Calls Tryz.prog 298 _ _ _ at hcon
 rw [show xs.toArray.size = xs.length by simp] at hcon
 refine hcon.mono ?_
 rintro e w' ⟨rfl, d', n, os, ⟨hsz, _, hperm⟩, hs, rfl⟩
 have hsz' : d'.size = xs.length := by simpa using hsz
 have hall : d'.toList.Perm xs := by
  have h1 : (d'.extract 0 xs.length).toList = d'.toList := by rw [← hsz']; simp
  have h2 : ((xs.toArray).extract 0 xs.length).toList = xs := by simp
  rw [h1, h2] at hperm; exact hperm
 have hbel : Below B w (sortWorldK encL 4 w g 0 n d' os) := by
  unfold sortWorldK
  refine below_growS os (below_putRow id w n g 0 (Go.Sort.flatK encL 4 d') hB) ?_
  have := (below_putRow id w n g 0 (Go.Sort.flatK encL 4 d') hB).size
  have hz : w.heap.size ≤ (Go.Sort.putRowK encL 4 (Go.Sort.ahead w n) g 0 d').heap.size := by
   show w.heap.size ≤ (w.heap.modify g _).size; simp
  omega
 have hlt : g < (sortWorldK encL 4 w g 0 n d' os).heap.size := by
  have := size_sortWorldK_c encL 4 w g 0 n d' os; omega
 have hhold : RowL (sortWorldK encL 4 w g 0 n d' os) g 0 d'.toList := by
  refine RowL.of_holds ?_
  have := holdsK_sortWorldK_c encL 4 w g 0 xs.toArray d' n os hrow.holds hg (by simpa using hsz')
  simpa using this
 refine hR _ d'.toList hbel hlt hhold (by simpa using hsz') (fun x => hall.mem_iff) ?_
 unfold WeakL
 rw [List.pairwise_iff_getElem]
 intro i j hi hj hij
 have hj' : j < d'.size := by simpa using hj
 have := hs i j (Nat.zero_le _) hij (by rw [← hsz']; exact hj')
 have h2 : decide (cmpL d'[j]! d'[i]! < 0) = false := this
 rw [cmpL_lt] at h2
 have h3 := of_decide_eq_false h2
 rw [getElem!_pos d' j hj', getElem!_pos d' i (by omega)] at h3
 simpa using h3
def zerosL (n : Nat) : List Value := (Builtin.zeroCells (Value.agg #[.int .i64 0, .int .i64 0, .int .i64 0, .int .i64 0]).cells n).toList
theorem zerosL_length (n : Nat) : (zerosL n).length = n * 4 := by
 unfold zerosL; rw [Array.length_toList, size_zeroCells]; rfl
theorem zerosL_one (n : Nat) : ∀ v ∈ zerosL n, v.oneCell' = true := by
 intro v hv
 unfold zerosL Builtin.zeroCells at hv
 rw [Array.toList_map, List.mem_map] at hv
 obtain ⟨i, _, rfl⟩ := hv
 have h4 : (Value.agg #[.int .i64 0, .int .i64 0, .int .i64 0, .int .i64 0]).cells.size = 4 := rfl
 rw [h4]
 have : i % 4 = 0 ∨ i % 4 = 1 ∨ i % 4 = 2 ∨ i % 4 = 3 := by omega
 rcases this with h | h | h | h <;> rw [h] <;> rfl
theorem run_clear_lines (w : World) (ty g o n c : Nat) (hn : 0 < n) (hc : ∀ j, j < n * 4 → (w.cell? ⟨g, o + j, none⟩).isSome = true) (hf : ∀ j, j < n * 4 → w.frozen? ⟨g, o + j, none⟩ = false) :
  (Builtin.clear_ #[22] ty #[.slice (some ⟨g, o, none⟩) n c]).run Tryz.prog w = .ok (.tuple #[]) (w.setCells g o (zerosL n)) := by
 have hst := run_storeCells_cells (P := Tryz.prog) g o (zerosL n) 0 w (by rw [zerosL_length]; simpa using hc) (by rw [zerosL_length]; simpa using hf) (zerosL_one n)
 simp only [Nat.add_zero] at hst
 obtain ⟨m, rfl⟩ : ∃ m, n = m + 1 := ⟨n - 1, by omega⟩
 unfold zerosL at hst ⊢
 simp [Builtin.clear_, run_underlying Tryz.underlying22, hst]
theorem RowL.cleared {w : World} {g : Nat} {ys : List Ln} (h : RowL w g 0 ys) (k n : Nat) : RowL (w.setCells g (k * 4) (zerosL n)) g 0 (ys.take k) := by
 intro j l hj i u hu
 have hi : i < 4 := by have := (List.getElem?_eq_some_iff.1 hu).1; rw [encL_len] at this; exact this
 rw [List.getElem?_take] at hj
 split at hj
 ·next hjk =>
  obtain ⟨h1, h2⟩ := h j l hj i u hu
  rw [World.frozen?_setCells, World.cell?_setCells_out g (zerosL n) (k * 4) w ⟨g, 0 + j * 4 + i, none⟩ (fun _ _ => .inl (by dsimp only; omega))]
  exact ⟨h1, h2⟩
 ·cases hj
theorem RowL.isSome {w : World} {g : Nat} {ys : List Ln} (h : RowL w g 0 ys) {t : Nat} (ht : t < ys.length * 4) : (w.cell? ⟨g, t, none⟩).isSome = true ∧ w.frozen? ⟨g, t, none⟩ = false := by
 have hq : t / 4 < ys.length := by omega
 obtain ⟨h1, h2⟩ := h (t / 4) _ (List.getElem?_eq_getElem hq) (t % 4) _ (encL_get! _ _ (Nat.mod_lt _ (by omega)))
 rw [show 0 + t / 4 * 4 + t % 4 = t by omega] at h1 h2
 exact ⟨by rw [h1]; rfl, h2⟩
theorem below_setCells {B : Nat} {a : World} (g : Nat) (hB : B ≤ g) : ∀ (vs : List Value) (o : Nat) (w : World), Below B a w → Below B a (w.setCells g o vs)
 | [], _, _, h => h
 | _ :: r, o, _, h => below_setCells g hB r (o + 1) _ (Below.setCell h hB _)
theorem size_setCells' (g : Nat) : ∀ (vs : List Value) (o : Nat) (w : World), (w.setCells g o vs).heap.size = w.heap.size
 | [], _, _ => rfl
 | _ :: r, _, _ => by rw [World.setCells, size_setCells' g r, World.size_setCell]
end Go.Proofs.YtmeejlgnhfkeaaaGreatDoor

namespace Go.Proofs.YtmeejlgnhfkeaaaGreatDoor
open Go.RowKit
theorem RowL.at0 {w : World} {g : Nat} {xs : List Ln} (h : RowL w g 0 xs) {k : Nat} {op d a b : Int} (hk : xs[k]? = some ⟨op, d, a, b⟩) :
  (w.cell? ⟨g, k * 4, none⟩ = some (.int .i64 op) ∧ w.cell? ⟨g, k * 4 + 1, none⟩ = some (.int .i64 d) ∧ w.cell? ⟨g, k * 4 + 2, none⟩ = some (.int .i64 a) ∧ w.cell? ⟨g, k * 4 + 3, none⟩ = some (.int .i64 b)) ∧
  (w.frozen? ⟨g, k * 4, none⟩ = false ∧ w.frozen? ⟨g, k * 4 + 1, none⟩ = false ∧ w.frozen? ⟨g, k * 4 + 2, none⟩ = false ∧ w.frozen? ⟨g, k * 4 + 3, none⟩ = false) := by
 have := h.at hk
 simpa using this
theorem RowL.atOff {w : World} {g : Nat} {xs : List Ln} (h : RowL w g 0 xs) {p q : Nat} {op d a b : Int} (hk : xs[p + q]? = some ⟨op, d, a, b⟩) :
  w.cell? ⟨g, p * 4 + q * 4, none⟩ = some (.int .i64 op) ∧ w.cell? ⟨g, p * 4 + q * 4 + 1, none⟩ = some (.int .i64 d) ∧ w.cell? ⟨g, p * 4 + q * 4 + 2, none⟩ = some (.int .i64 a) ∧ w.cell? ⟨g, p * 4 + q * 4 + 3, none⟩ = some (.int .i64 b) := by
 have := (h.at0 hk).1
 rw [show (p + q) * 4 = p * 4 + q * 4 by omega] at this
 exact this
theorem RowL.set0 {w : World} {g : Nat} {xs : List Ln} (h : RowL w g 0 xs) {k : Nat} (hk : k < xs.length) (l : Ln) : RowL (storeL w g (k * 4) l) g 0 (xs.set k l) := by
 have := h.set hk l
 rwa [Nat.zero_add] at this
set_option maxRecDepth 100000 in
set_option maxHeartbeats 16000000 in
theorem compactLn_any (xs : List Ln) (g n cap B : Nat) (w : World) (hn : xs.length = n) (hrow : RowL w g 0 xs) (hg : g < w.heap.size) (hB : B ≤ g) (hcap : n ≤ cap) (hm : cap ≤ 9223372036854775807) (R : Ending → World → Prop)
  (hR : ∀ w', Below B w w' → g < w'.heap.size → RowL w' g 0 (compL xs) → R (.returned (.slice (some ⟨g, 0, none⟩) (compL xs).length cap)) w') :
  Calls Tryz.prog 299 #[.slice (some ⟨g, 0, none⟩) n cap] w R := by
 have HN := Lib.hid hn
 have HROW := Lib.hid hrow
 have HR := Lib.hid hR
 clear hrow hR hn
 by_cases h2 : n < 2
 ·have hc : compL xs = xs := by
   have hl := HN.out
   match xs, hl with
   | [], _ => rfl
   | [x], _ => rfl
   | x :: y :: r, hl => simp at hl; omega
  have hf := HR.out w (Below.refl _ _) hg (by rw [hc]; exact HROW.out)
  rw [hc, HN.out] at hf
  have HF := Lib.hid hf
  clear hf hc
  go_enter Tryz.func299, Tryz.ntmps299
  go_wp2_with fail
  exact HF.out
 ·have h2i : ¬ (n : Int) < 2 := by omega
  have hnm : n ≤ 9223372036854775807 := by omega
  go_enter Tryz.func299, Tryz.ntmps299
  go_wp2_with fail
  go_loopw [3] (fun i wr => ∃ k : Nat, 1 ≤ k ∧ k ≤ n ∧ i = .int .i64 k ∧ Below B w wr ∧ g < wr.heap.size ∧ RowL wr g 0 xs ∧ ∀ j x y, j + 1 < k → xs[j]? = some x → xs[j + 1]? = some y → y ≠ x) (fun i _ => n - (intOf i).toNat)
  case atStart => exact ⟨1, Nat.le_refl _, by omega, rfl, Below.refl _ _, hg, HROW.out, fun j x y hj => by omega⟩
  case round =>
   obtain ⟨k, hk1, hk, rfl, hb, hgw, hrw, hno⟩ := hrel
   have HB := Lib.hid hb
   have HRW := Lib.hid hrw
   have HNO := Lib.hid hno
   clear hb hrw hno
   by_cases hlt : k < n
   ·obtain ⟨j, hj⟩ : ∃ j, k = j + 1 := ⟨k - 1, by omega⟩
    have hjk : (k : Int) - 1 = (j : Int) := by omega
    have qw : IntKind.i64.wrap ((k : Int) - 1) = (j : Int) := by rw [hjk]; exact IntWalk.i64_in _ (by omega)
    have hjn : j < n := by omega
    have hjn2 : (j : Int) < (n : Int) := by omega
    have hkn2 : (k : Int) < (n : Int) := by omega
    have hj0 : (0 : Int) ≤ (j : Int) := by omega
    have hk0 : (0 : Int) ≤ (k : Int) := by omega
    have HJ := Lib.hid hj
    obtain ⟨⟨op, d, a, b⟩, hy⟩ : ∃ y, xs[k]? = some y := ⟨_, List.getElem?_eq_getElem (by rw [HN.out]; exact hlt)⟩
    obtain ⟨⟨op', d', a', b'⟩, hx⟩ : ∃ x, xs[j]? = some x := ⟨_, List.getElem?_eq_getElem (by rw [HN.out]; exact hjn)⟩
    obtain ⟨⟨c0, c1, c2, c3⟩, _⟩ := HRW.out.at0 hy
    obtain ⟨⟨e0, e1, e2, e3⟩, _⟩ := HRW.out.at0 hx
    have HX := Lib.hid hx
    have HY := Lib.hid hy
    clear hj hx hy
    by_cases hxy : (⟨op, d, a, b⟩ : Ln) = ⟨op', d', a', b'⟩
    ·cases hxy
     obtain ⟨n2, rfl⟩ : ∃ n2, n = k + n2 := ⟨n - k, by omega⟩
     obtain ⟨cc, rfl⟩ : ∃ cc, cap = k + cc := ⟨cap - k, by omega⟩
     have hst : compL (xs.take (k + 1)) = xs.take k := by
      rw [HJ.out, compL_snoc (HX.out) (HJ.out ▸ HY.out), if_pos rfl, List.append_nil]
      exact compL_take_same (j + 1) (by rw [HN.out]; omega) (fun i x y hi hx hy => HNO.out i x y (by have := HJ.out; omega) hx hy)
     have HST := Lib.hid hst
     have hn20 : 0 < n2 := by omega
     clear hst
     go_wp2_with (go_quiet (fail))
     go_loopw [3, 5] (fun kw k2 wr => ∃ (m q : Nat) (ys : List Ln), kw = .int .i64 m ∧ k2 = .int .i64 q ∧ 1 ≤ q ∧ q ≤ n2 ∧ m < k + q ∧ Below B w wr ∧ g < wr.heap.size ∧ RowL wr g 0 ys ∧ ys.length = k + n2 ∧ ys.take m = compL (xs.take (k + q)) ∧ m ≤ (compL (xs.take (k + q))).length ∧ ys.drop (k + q - 1) = xs.drop (k + q - 1)) (fun _ k2 _ => n2 - (intOf k2).toNat)
     case atStart =>
      refine ⟨k, 1, xs, rfl, rfl, Nat.le_refl _, by omega, by omega, below_drewN HB.out _, by simpa using hgw, HRW.out.grow ((Grow.refl _).drewN _) hgw, HN.out, HST.out.symm, ?_, rfl⟩
      rw [HST.out, List.length_take, HN.out]; omega
     case round =>
      obtain ⟨m, q, ys, rfl, rfl, hq1, hq, hmq, hb2, hgw2, hrw2, hyl, htk, hml, hdr⟩ := hrel
      have HB2 := Lib.hid hb2
      have HRW2 := Lib.hid hrw2
      have HYL := Lib.hid hyl
      have HTK := Lib.hid htk
      have HML := Lib.hid hml
      have HDR := Lib.hid hdr
      clear hb2 hrw2 hyl htk hml hdr c0 c1 c2 c3 e0 e1 e2 e3
      by_cases hql : q < n2
      ·obtain ⟨t, ht⟩ : ∃ t, q = t + 1 := ⟨q - 1, by omega⟩
       have hqt : (q : Int) - 1 = (t : Int) := by omega
       have qw2 : IntKind.i64.wrap ((q : Int) - 1) = (t : Int) := by rw [hqt]; exact IntWalk.i64_in _ (by omega)
       have htn : t < n2 := by omega
       have htn2 : (t : Int) < (n2 : Int) := by omega
       have hqn2 : (q : Int) < (n2 : Int) := by omega
       have ht0 : (0 : Int) ≤ (t : Int) := by omega
       have hq0 : (0 : Int) ≤ (q : Int) := by omega
       have hmn : m < k + n2 := by omega
       have hmn2 : (m : Int) < ((k + n2 : Nat) : Int) := by omega
       have hmn3 : (m : Int) < (k : Int) + (n2 : Int) := by omega
       have HT := Lib.hid ht
       clear ht
       obtain ⟨⟨op, d, a, b⟩, hy⟩ : ∃ y, xs[k + q]? = some y := ⟨_, List.getElem?_eq_getElem (by rw [HN.out]; omega)⟩
       obtain ⟨⟨op', d', a', b'⟩, hx⟩ : ∃ x, xs[k + t]? = some x := ⟨_, List.getElem?_eq_getElem (by rw [HN.out]; omega)⟩
       have hy2 : ys[k + q]? = some ⟨op, d, a, b⟩ := by
        have h := congrArg (fun l => l[1]?) HDR.out
        simp only [List.getElem?_drop] at h
        rw [show k + q - 1 + 1 = k + q by omega] at h
        rw [h]; exact hy
       have hx2 : ys[k + t]? = some ⟨op', d', a', b'⟩ := by
        have h := congrArg (fun l => l[0]?) HDR.out
        simp only [List.getElem?_drop] at h
        have := HT.out
        rw [show k + q - 1 + 0 = k + t by omega] at h
        rw [h]; exact hx
       obtain ⟨c0, c1, c2, c3⟩ := HRW2.out.atOff hy2
       obtain ⟨e0, e1, e2, e3⟩ := HRW2.out.atOff hx2
       have hsn := compL_snoc (k := k + t) (by exact hx) (by have := HT.out; rw [show k + t + 1 = k + q by omega]; exact hy)
       rw [show k + t + 2 = k + (q + 1) by have := HT.out; omega, show k + t + 1 = k + q by have := HT.out; omega] at hsn
       have HSN := Lib.hid hsn
       clear hy hx hy2 hx2 hsn
       have hdr1 : ys.drop (k + (q + 1) - 1) = xs.drop (k + (q + 1) - 1) := by
        have h := congrArg (fun l => l.drop 1) HDR.out
        simp only [List.drop_drop] at h
        rw [show k + q - 1 + 1 = k + (q + 1) - 1 by omega] at h
        exact h
       have HDR1 := Lib.hid hdr1
       clear hdr1
       by_cases hxy : (⟨op, d, a, b⟩ : Ln) = ⟨op', d', a', b'⟩
       ·cases hxy
        go_wp2_with (go_quiet (fail))
        go_roundw
        case rel =>
         refine ⟨m, q + 1, ys, rfl, by go_num, by omega, by omega, by omega, below_drewN HB2.out _, by simpa using hgw2, HRW2.out.grow ((Grow.refl _).drewN _) hgw2, HYL.out, ?_, ?_, HDR1.out⟩
         ·rw [HSN.out, if_pos rfl, List.append_nil]; exact HTK.out
         ·rw [HSN.out, if_pos rfl, List.append_nil]; exact HML.out
        case measure => simp [intOf]; omega
       ·have HXY := Lib.hid hxy
        obtain ⟨⟨mop, md, ma, mb⟩, hmy⟩ : ∃ y, ys[m]? = some y := ⟨_, List.getElem?_eq_getElem (by rw [HYL.out]; exact hmn)⟩
        obtain ⟨⟨m0, m1, m2, m3⟩, ⟨z0, z1, z2, z3⟩⟩ := HRW2.out.at0 hmy
        clear hxy hmy
        by_cases gq0 : op = op'
        rotate_left
        ·have tq1 : (op == op') = false := by simpa using gq0
         have tq2 : (op != op') = true := by simpa using gq0
         go_wp2_with (go_quiet (fail))
         go_roundw
         case rel =>
          have hrs := (HRW2.out.grow ((Grow.refl _).drewN nq) hgw2).set0 (k := m) (by rw [HYL.out]; exact hmn) ⟨op, d, a, b⟩
          refine ⟨m + 1, q + 1, ys.set m ⟨op, d, a, b⟩, by go_num, by go_num, by omega, by omega, by omega, below_storeL (i := m * 4) ⟨op, d, a, b⟩ (below_drewN HB2.out nq) hB, ?_, hrs, by rw [List.length_set]; exact HYL.out, ?_, ?_, ?_⟩
          ·simp only [World.size_setCell]; simpa using hgw2
          ·rw [HSN.out, if_neg HXY.out, ← HTK.out, List.take_add_one, List.take_set, List.getElem?_set_self (by rw [HYL.out]; exact hmn), List.set_eq_of_length_le (by simp; omega)]; rfl
          ·rw [HSN.out, if_neg HXY.out, List.length_append]; have := HML.out; simp; omega
          ·rw [List.drop_set_of_lt (by omega)]; exact HDR1.out
         case measure => simp [intOf]; omega
        subst gq0
        by_cases gq1 : d = d'
        rotate_left
        ·have tq1 : (d == d') = false := by simpa using gq1
         have tq2 : (d != d') = true := by simpa using gq1
         go_wp2_with (go_quiet (fail))
         go_roundw
         case rel =>
          have hrs := (HRW2.out.grow ((Grow.refl _).drewN nq) hgw2).set0 (k := m) (by rw [HYL.out]; exact hmn) ⟨op, d, a, b⟩
          refine ⟨m + 1, q + 1, ys.set m ⟨op, d, a, b⟩, by go_num, by go_num, by omega, by omega, by omega, below_storeL (i := m * 4) ⟨op, d, a, b⟩ (below_drewN HB2.out nq) hB, ?_, hrs, by rw [List.length_set]; exact HYL.out, ?_, ?_, ?_⟩
          ·simp only [World.size_setCell]; simpa using hgw2
          ·rw [HSN.out, if_neg HXY.out, ← HTK.out, List.take_add_one, List.take_set, List.getElem?_set_self (by rw [HYL.out]; exact hmn), List.set_eq_of_length_le (by simp; omega)]; rfl
          ·rw [HSN.out, if_neg HXY.out, List.length_append]; have := HML.out; simp; omega
          ·rw [List.drop_set_of_lt (by omega)]; exact HDR1.out
         case measure => simp [intOf]; omega
        subst gq1
        by_cases gq2 : a = a'
        rotate_left
        ·have tq1 : (a == a') = false := by simpa using gq2
         have tq2 : (a != a') = true := by simpa using gq2
         go_wp2_with (go_quiet (fail))
         go_roundw
         case rel =>
          have hrs := (HRW2.out.grow ((Grow.refl _).drewN nq) hgw2).set0 (k := m) (by rw [HYL.out]; exact hmn) ⟨op, d, a, b⟩
          refine ⟨m + 1, q + 1, ys.set m ⟨op, d, a, b⟩, by go_num, by go_num, by omega, by omega, by omega, below_storeL (i := m * 4) ⟨op, d, a, b⟩ (below_drewN HB2.out nq) hB, ?_, hrs, by rw [List.length_set]; exact HYL.out, ?_, ?_, ?_⟩
          ·simp only [World.size_setCell]; simpa using hgw2
          ·rw [HSN.out, if_neg HXY.out, ← HTK.out, List.take_add_one, List.take_set, List.getElem?_set_self (by rw [HYL.out]; exact hmn), List.set_eq_of_length_le (by simp; omega)]; rfl
          ·rw [HSN.out, if_neg HXY.out, List.length_append]; have := HML.out; simp; omega
          ·rw [List.drop_set_of_lt (by omega)]; exact HDR1.out
         case measure => simp [intOf]; omega
        subst gq2
        by_cases gq3 : b = b'
        rotate_left
        ·have tq1 : (b == b') = false := by simpa using gq3
         have tq2 : (b != b') = true := by simpa using gq3
         go_wp2_with (go_quiet (fail))
         go_roundw
         case rel =>
          have hrs := (HRW2.out.grow ((Grow.refl _).drewN nq) hgw2).set0 (k := m) (by rw [HYL.out]; exact hmn) ⟨op, d, a, b⟩
          refine ⟨m + 1, q + 1, ys.set m ⟨op, d, a, b⟩, by go_num, by go_num, by omega, by omega, by omega, below_storeL (i := m * 4) ⟨op, d, a, b⟩ (below_drewN HB2.out nq) hB, ?_, hrs, by rw [List.length_set]; exact HYL.out, ?_, ?_, ?_⟩
          ·simp only [World.size_setCell]; simpa using hgw2
          ·rw [HSN.out, if_neg HXY.out, ← HTK.out, List.take_add_one, List.take_set, List.getElem?_set_self (by rw [HYL.out]; exact hmn), List.set_eq_of_length_le (by simp; omega)]; rfl
          ·rw [HSN.out, if_neg HXY.out, List.length_append]; have := HML.out; simp; omega
          ·rw [List.drop_set_of_lt (by omega)]; exact HDR1.out
         case measure => simp [intOf]; omega
        subst gq3
        exact absurd rfl HXY.out
      ·have hqe : q = n2 := by omega
       subst hqe
       have hmlt : m < k + q := hmq
       have hcl : ∀ ty, (Builtin.clear_ #[22] ty #[.slice (some ⟨g, m * 4, none⟩) (k + q - m) (k + cc - m)]).run Tryz.prog wr = .ok (.tuple #[]) (wr.setCells g (m * 4) (zerosL (k + q - m))) := fun ty =>
        run_clear_lines wr ty g (m * 4) (k + q - m) (k + cc - m) (by omega) (fun t ht => (HRW2.out.isSome (by rw [HYL.out]; omega)).1) (fun t ht => (HRW2.out.isSome (by rw [HYL.out]; omega)).2)
       have hfin := HRW2.out.cleared m (k + q - m)
       rw [HTK.out] at hfin
       have hlen : m = (compL (xs.take (k + q))).length := by
        rw [← HTK.out, List.length_take, HYL.out]; omega
       have hall : compL (xs.take (k + q)) = compL xs := by rw [List.take_of_length_le (by rw [HN.out]; exact Nat.le_refl _)]
       rw [hall] at hfin hlen
       have hf := HR.out _ (below_setCells g hB _ _ _ HB2.out) (by rw [size_setCells']; exact hgw2) hfin
       rw [← hlen] at hf
       have HF := Lib.hid hf
       have hm2 : (m : Int) ≤ ((k + q : Nat) : Int) := by omega
       have hm3 : (m : Int) ≤ (k : Int) + (q : Int) := by omega
       have hm4 : m ≤ k + q := by omega
       have hm5 : m ≤ k + cc := by omega
       clear hf hfin hlen hall
       go_wp2_with fail
       exact HF.out
    ·have HXY := Lib.hid hxy
     clear hxy
     by_cases gq0 : op = op'
     rotate_left
     ·have tq1 : (op == op') = false := by simpa using gq0
      have tq2 : (op != op') = true := by simpa using gq0
      go_wp2_with (go_quiet (fail))
      go_roundw
      case rel =>
       refine ⟨k + 1, by omega, by omega, by go_num, below_drewN HB.out _, by simpa using hgw, HRW.out.grow ((Grow.refl _).drewN _) hgw, fun i x y hi hx hy => ?_⟩
       by_cases e : i = j
       ·subst e
        rw [HX.out] at hx
        rw [← HJ.out, HY.out] at hy
        cases hx
        cases hy
        exact HXY.out
       ·exact HNO.out i x y (by have := HJ.out; omega) hx hy
      case measure => simp [intOf]; omega
     subst gq0
     by_cases gq1 : d = d'
     rotate_left
     ·have tq1 : (d == d') = false := by simpa using gq1
      have tq2 : (d != d') = true := by simpa using gq1
      go_wp2_with (go_quiet (fail))
      go_roundw
      case rel =>
       refine ⟨k + 1, by omega, by omega, by go_num, below_drewN HB.out _, by simpa using hgw, HRW.out.grow ((Grow.refl _).drewN _) hgw, fun i x y hi hx hy => ?_⟩
       by_cases e : i = j
       ·subst e
        rw [HX.out] at hx
        rw [← HJ.out, HY.out] at hy
        cases hx
        cases hy
        exact HXY.out
       ·exact HNO.out i x y (by have := HJ.out; omega) hx hy
      case measure => simp [intOf]; omega
     subst gq1
     by_cases gq2 : a = a'
     rotate_left
     ·have tq1 : (a == a') = false := by simpa using gq2
      have tq2 : (a != a') = true := by simpa using gq2
      go_wp2_with (go_quiet (fail))
      go_roundw
      case rel =>
       refine ⟨k + 1, by omega, by omega, by go_num, below_drewN HB.out _, by simpa using hgw, HRW.out.grow ((Grow.refl _).drewN _) hgw, fun i x y hi hx hy => ?_⟩
       by_cases e : i = j
       ·subst e
        rw [HX.out] at hx
        rw [← HJ.out, HY.out] at hy
        cases hx
        cases hy
        exact HXY.out
       ·exact HNO.out i x y (by have := HJ.out; omega) hx hy
      case measure => simp [intOf]; omega
     subst gq2
     by_cases gq3 : b = b'
     rotate_left
     ·have tq1 : (b == b') = false := by simpa using gq3
      have tq2 : (b != b') = true := by simpa using gq3
      go_wp2_with (go_quiet (fail))
      go_roundw
      case rel =>
       refine ⟨k + 1, by omega, by omega, by go_num, below_drewN HB.out _, by simpa using hgw, HRW.out.grow ((Grow.refl _).drewN _) hgw, fun i x y hi hx hy => ?_⟩
       by_cases e : i = j
       ·subst e
        rw [HX.out] at hx
        rw [← HJ.out, HY.out] at hy
        cases hx
        cases hy
        exact HXY.out
       ·exact HNO.out i x y (by have := HJ.out; omega) hx hy
      case measure => simp [intOf]; omega
     subst gq3
     exact absurd rfl HXY.out
   ·have hke : k = n := by omega
    have hc : compL xs = xs := by
     have := compL_take_same (xs := xs) k (by rw [HN.out]; omega) (fun j x y hj hx hy => HNO.out j x y hj hx hy)
     rwa [List.take_of_length_le (by rw [HN.out]; omega)] at this
    have hf := HR.out wr HB.out hgw (by rw [hc]; exact HRW.out)
    rw [hc, HN.out] at hf
    have HF := Lib.hid hf
    clear hf hc
    subst hke
    go_wp2_with fail
    exact HF.out
end Go.Proofs.YtmeejlgnhfkeaaaGreatDoor

namespace Go.Proofs.YtmeejlgnhfkeaaaGreatDoor
open Go.RowKit
def prL (but x : Ln) : Bool := decide (x = but) || !x.ok
def ButAt (w : World) (cb : Nat) (but : Ln) : Prop := w.heap[cb]? = some (.cells #[.int .i64 but.op, .int .i64 but.d, .int .i64 but.a, .int .i64 but.b] 57 (0, 0))
theorem ButAt.grow {w w' : World} {cb : Nat} {but : Ln} (h : ButAt w cb but) (g : Grow w w') : ButAt w' cb but := g.blk h
theorem ButAt.store {w : World} {cb g p : Nat} {but : Ln} (h : ButAt w cb but) (hne : cb ≠ g) (l : Ln) : ButAt (storeL w g p l) cb but := (heap_storeL w g p cb l hne).trans h
theorem prF_any (x but : Ln) (cb : Nat) (w : World) (hb : ButAt w cb but) (R : Ending → World → Prop) (hR : ∀ w', Grow w w' → R (.returned (.bool (prL but x))) w') :
  Calls Tryz.prog 295 #[.agg #[.int .i64 x.op, .int .i64 x.d, .int .i64 x.a, .int .i64 x.b], .pointer (some ⟨cb, 0, none⟩)] w R :=
 validF_any x.op x.d x.a x.b but.op but.d but.a but.b cb w hb R hR
theorem none_take_succ {xs : List Ln} {f : Ln → Bool} {k : Nat} {x : Ln} (h : ∀ l ∈ xs.take k, f l = false) (hx : xs[k]? = some x) (hf : f x = false) : ∀ l ∈ xs.take (k + 1), f l = false := by
 intro l hl
 rw [List.take_add_one, hx] at hl
 rcases List.mem_append.1 hl with hl | hl
 ·exact h l hl
 ·simp at hl; subst hl; exact hf
set_option maxRecDepth 100000 in
set_option maxHeartbeats 4000000 in
theorem indexF_any (xs : List Ln) (but : Ln) (g n cap cb : Nat) (w : World) (hn : xs.length = n) (hnm : n ≤ 9223372036854775807) (hrow : RowL w g 0 xs) (hg : g < w.heap.size) (hbut : ButAt w cb but) (R : Ending → World → Prop)
  (hR1 : ∀ w' k x, Grow w w' → xs[k]? = some x → prL but x = true → (∀ y ∈ xs.take k, prL but y = false) → R (.returned (.int .i64 (k : Int))) w')
  (hR2 : ∀ w', Grow w w' → (∀ y ∈ xs, prL but y = false) → R (.returned (.int .i64 (-1))) w') :
  Calls Tryz.prog 300 #[.slice (some ⟨g, 0, none⟩) n cap, .func (.func 295) #[] #[.pointer (some ⟨cb, 0, none⟩)]] w R := by
 have HN := Lib.hid hn
 have HROW := Lib.hid hrow
 have HR1 := Lib.hid hR1
 have HR2 := Lib.hid hR2
 have HBUT := Lib.hid hbut
 have eg := enters_of Tryz.func295 (by kernel_rfl) rfl
 clear hn hrow hR1 hR2 hbut
 go_enter Tryz.func300, Tryz.ntmps300
 go_wp2_with fail
 go_loopw [8] (fun i wr => ∃ k : Nat, k ≤ n ∧ i = .int .i64 k ∧ Grow w wr ∧ ∀ y ∈ xs.take k, prL but y = false) (fun i _ => n - (intOf i).toNat)
 case atStart => exact ⟨0, Nat.zero_le _, rfl, Grow.refl _, by simp⟩
 case round =>
  obtain ⟨k, hk, rfl, hgr, hno⟩ := hrel
  have HG := Lib.hid hgr
  have HNO := Lib.hid hno
  have hz := hgr.sz
  clear hgr hno
  by_cases hlt : k < n
  ·obtain ⟨x, hx⟩ : ∃ x, xs[k]? = some x := ⟨_, List.getElem?_eq_getElem (by rw [HN.out]; exact hlt)⟩
   obtain ⟨⟨c0, c1, c2, c3⟩, _⟩ := (HROW.out.grow HG.out hg).at0 (k := k) (op := x.op) (d := x.d) (a := x.a) (b := x.b) hx
   have hgw : g < wr.heap.size := by omega
   have hkn : (k : Int) < (n : Int) := by omega
   have HX := Lib.hid hx
   clear hx
   cases hp : prL but x with
   | true =>
    have HP := Lib.hid hp
    clear hp
    go_wp2_with fail
    refine prF_any x but cb _ (HBUT.out.grow HG.out) _ ?_
    intro w1 hg1
    rw [HP.out]
    have HF := Lib.hid (HR1.out w1 k x (HG.out.trans hg1) HX.out HP.out HNO.out)
    clear hg1
    go_wp2_with fail
    exact HF.out
   | false =>
    have HP := Lib.hid hp
    clear hp
    go_wp2_with fail
    refine prF_any x but cb _ (HBUT.out.grow HG.out) _ ?_
    intro w1 hg1
    rw [HP.out]
    have HG1 := Lib.hid (HG.out.trans hg1)
    clear hg1
    go_wp2_with fail
    go_roundw
    case rel => exact ⟨k + 1, by omega, by go_num, HG1.out, none_take_succ HNO.out HX.out HP.out⟩
    case measure => simp [intOf]; omega
  ·have HF := Lib.hid (HR2.out wr HG.out (fun y hy => HNO.out y (by rw [List.take_of_length_le (by rw [HN.out]; omega)]; exact hy)))
   go_wp2_with fail
   exact HF.out
theorem keepL_all {pr : Ln → Bool} {xs : List Ln} (h : ∀ y ∈ xs, pr y = false) : keepL pr xs = xs := by
 unfold keepL
 rw [List.filter_eq_self]
 intro y hy
 rw [h y hy]; rfl
set_option maxRecDepth 100000 in
set_option maxHeartbeats 8000000 in
theorem deleteF_any (xs : List Ln) (but : Ln) (g n cap cb B : Nat) (w : World) (hn : xs.length = n) (hcap : n ≤ cap) (hm : cap ≤ 9223372036854775807) (hrow : RowL w g 0 xs) (hg : g < w.heap.size) (hB : B ≤ g) (hbut : ButAt w cb but) (hne : cb ≠ g) (R : Ending → World → Prop)
  (hR : ∀ w', Below B w w' → g < w'.heap.size → RowL w' g 0 (keepL (prL but) xs) → R (.returned (.slice (some ⟨g, 0, none⟩) (keepL (prL but) xs).length cap)) w') :
  Calls Tryz.prog 294 #[.slice (some ⟨g, 0, none⟩) n cap, .func (.func 295) #[] #[.pointer (some ⟨cb, 0, none⟩)]] w R := by
 have HN := Lib.hid hn
 have HROW := Lib.hid hrow
 have HR := Lib.hid hR
 have HBUT := Lib.hid hbut
 have eg := enters_of Tryz.func295 (by kernel_rfl) rfl
 clear hn hrow hR hbut
 go_enter Tryz.func294, Tryz.ntmps294
 go_wp2_with fail
 refine indexF_any xs but g n cap cb _ HN.out (by omega) HROW.out hg HBUT.out _ ?_ ?_
 ·intro w1 k x hg1 hx hp hno
  have hkn : k < n := by rw [← HN.out]; exact (List.getElem?_eq_some_iff.1 hx).1
  have hst : keepL (prL but) (xs.take (k + 1)) = xs.take k := by
   rw [keepL_snoc hx, hp, if_pos rfl, List.append_nil]; exact keepL_all hno
  have HST := Lib.hid hst
  have HG1 := Lib.hid hg1
  have hgw1 : g < w1.heap.size := by have := hg1.sz; omega
  have t1 : ((k : Int) == -1) = false := by simp
  have t2 : ((k : Int) != -1) = true := by simp
  clear hx hp hno hst hg1
  go_wp2_with fail
  go_loopw [5, 6] (fun iv jv wr => ∃ (m q : Nat) (ys : List Ln), iv = .int .i64 m ∧ jv = .int .i64 q ∧ q ≤ n ∧ m < q ∧ Below B w wr ∧ g < wr.heap.size ∧ ButAt wr cb but ∧ RowL wr g 0 ys ∧ ys.length = n ∧ ys.take m = keepL (prL but) (xs.take q) ∧ m ≤ (keepL (prL but) (xs.take q)).length ∧ ys.drop q = xs.drop q) (fun _ jv _ => n - (intOf jv).toNat)
  case atStart =>
   refine ⟨k, k + 1, xs, rfl, by go_num, by omega, by omega, HG1.out.below (by omega), hgw1, HBUT.out.grow HG1.out, HROW.out.grow HG1.out hg, HN.out, HST.out.symm, ?_, rfl⟩
   rw [HST.out, List.length_take, HN.out]; omega
  case round =>
   obtain ⟨m, q, ys, rfl, rfl, hq, hmq, hb2, hgw2, hbu, hrw2, hyl, htk, hml, hdr⟩ := hrel
   have HB2 := Lib.hid hb2
   have HBU := Lib.hid hbu
   have HRW2 := Lib.hid hrw2
   have HYL := Lib.hid hyl
   have HTK := Lib.hid htk
   have HML := Lib.hid hml
   have HDR := Lib.hid hdr
   clear hb2 hbu hrw2 hyl htk hml hdr t1 t2
   by_cases hql : q < n
   ·have hqn : (q : Int) < (n : Int) := by omega
    have hmn : m < n := by omega
    have hmn2 : (m : Int) < (n : Int) := by omega
    obtain ⟨x, hx⟩ : ∃ x, xs[q]? = some x := ⟨_, List.getElem?_eq_getElem (by rw [HN.out]; exact hql)⟩
    have hy2 : ys[q]? = some x := by
     have h := congrArg (fun l => l[0]?) HDR.out
     simp only [List.getElem?_drop, Nat.add_zero] at h
     rw [h]; exact hx
    obtain ⟨⟨c0, c1, c2, c3⟩, _⟩ := HRW2.out.at0 (k := q) (op := x.op) (d := x.d) (a := x.a) (b := x.b) hy2
    have hsn := keepL_snoc (pr := prL but) hx
    have HSN := Lib.hid hsn
    have hdr1 : ys.drop (q + 1) = xs.drop (q + 1) := by
     have h := congrArg (fun l => l.drop 1) HDR.out
     simp only [List.drop_drop] at h
     exact h
    have HDR1 := Lib.hid hdr1
    clear hx hy2 hsn hdr1
    cases hp : prL but x with
    | true =>
     have HP := Lib.hid hp
     clear hp
     go_wp2_with fail
     refine prF_any x but cb _ (HBU.out.grow ((Grow.refl _).alloc _)) _ ?_
     intro w2 hg2
     rw [HP.out]
     have HG2 := Lib.hid (((Grow.refl wr).alloc _).trans hg2)
     clear hg2
     go_wp2_with fail
     go_roundw
     case rel =>
      refine ⟨m, q + 1, ys, rfl, by go_num, by omega, by omega, Below.of_grow HB2.out HG2.out (by omega), by have := HG2.out.sz; omega, HBU.out.grow HG2.out, HRW2.out.grow HG2.out hgw2, HYL.out, ?_, ?_, HDR1.out⟩
      ·rw [HSN.out, HP.out, if_pos rfl, List.append_nil]; exact HTK.out
      ·rw [HSN.out, HP.out, if_pos rfl, List.append_nil]; exact HML.out
     case measure => simp [intOf]; omega
    | false =>
     have HP := Lib.hid hp
     clear hp
     go_wp2_with fail
     refine prF_any x but cb _ (HBU.out.grow ((Grow.refl _).alloc _)) _ ?_
     intro w2 hg2
     rw [HP.out]
     have hbx := hg2.blk (heap_alloc_new wr (.cells #[.int .i64 x.op, .int .i64 x.d, .int .i64 x.a, .int .i64 x.b] 57))
     obtain ⟨b0, b1, b2, b3⟩ := box4 hbx
     have hzb := lt_of_block hbx
     have HG2 := Lib.hid (((Grow.refl wr).alloc _).trans hg2)
     have hrw3 := HRW2.out.grow HG2.out hgw2
     have hgw3 : g < w2.heap.size := by have := HG2.out.sz; omega
     obtain ⟨⟨mop, md, ma, mb⟩, hmy⟩ : ∃ y, ys[m]? = some y := ⟨_, List.getElem?_eq_getElem (by rw [HYL.out]; exact hmn)⟩
     obtain ⟨⟨m0, m1, m2, m3⟩, ⟨z0, z1, z2, z3⟩⟩ := hrw3.at0 hmy
     have HRW3 := Lib.hid hrw3
     have hne2 : wr.heap.size ≠ g := by omega
     have hne3 : g ≠ wr.heap.size := by omega
     clear hg2 hbx hrw3 hmy
     go_wp2_with fail
     go_roundw
     case rel =>
      have hrs := HRW3.out.set0 (k := m) (by rw [HYL.out]; exact hmn) x
      refine ⟨m + 1, q + 1, ys.set m x, by go_num, by go_num, by omega, by omega, below_storeL (i := m * 4) x (Below.of_grow HB2.out HG2.out (by omega)) hB, ?_, (HBU.out.grow HG2.out).store (p := m * 4) hne x, hrs, by rw [List.length_set]; exact HYL.out, ?_, ?_, ?_⟩
      ·simp only [World.size_setCell]; exact hgw3
      ·rw [HSN.out, HP.out, if_neg (by simp), ← HTK.out, List.take_add_one, List.take_set, List.getElem?_set_self (by rw [HYL.out]; exact hmn), List.set_eq_of_length_le (by simp; omega)]; rfl
      ·rw [HSN.out, HP.out, if_neg (by simp), List.length_append]; have := HML.out; simp; omega
      ·rw [List.drop_set_of_lt (by omega)]; exact HDR1.out
     case measure => simp [intOf]; omega
   ·have hqe : q = n := by omega
    subst hqe
    have hcl : ∀ ty, (Builtin.clear_ #[22] ty #[.slice (some ⟨g, m * 4, none⟩) (q - m) (cap - m)]).run Tryz.prog wr = .ok (.tuple #[]) (wr.setCells g (m * 4) (zerosL (q - m))) := fun ty =>
     run_clear_lines wr ty g (m * 4) (q - m) (cap - m) (by omega) (fun t ht => (HRW2.out.isSome (by rw [HYL.out]; omega)).1) (fun t ht => (HRW2.out.isSome (by rw [HYL.out]; omega)).2)
    have hfin := HRW2.out.cleared m (q - m)
    rw [HTK.out] at hfin
    have hlen : m = (keepL (prL but) (xs.take q)).length := by
     rw [← HTK.out, List.length_take, HYL.out]; omega
    have hall : keepL (prL but) (xs.take q) = keepL (prL but) xs := by rw [List.take_of_length_le (by rw [HN.out]; exact Nat.le_refl _)]
    rw [hall] at hfin hlen
    have hf := HR.out _ (below_setCells g hB _ _ _ HB2.out) (by rw [size_setCells']; exact hgw2) hfin
    rw [← hlen] at hf
    have HF := Lib.hid hf
    have hm2 : (m : Int) ≤ (q : Int) := by omega
    have hm4 : m ≤ q := by omega
    have hm5 : m ≤ cap := by omega
    clear hf hfin hlen hall
    go_wp2_with fail
    exact HF.out
 ·intro w1 hg1 hno
  have hk := keepL_all hno
  have hf := HR.out w1 (hg1.below (by omega)) (by have := hg1.sz; omega) (by rw [hk]; exact HROW.out.grow hg1 hg)
  rw [hk, HN.out] at hf
  have HF := Lib.hid hf
  clear hf hk hno hg1
  go_wp2_with fail
  exact HF.out
end Go.Proofs.YtmeejlgnhfkeaaaGreatDoor

namespace Go.Proofs.YtmeejlgnhfkeaaaGreatDoor
open Go.RowKit
set_option maxHeartbeats 4000000 in
theorem ordered_any (xs : List Ln) (g n cap B : Nat) (w : World) (hn : xs.length = n) (hrow : RowL w g 0 xs) (hg : g < w.heap.size) (hB : B ≤ g) (hcap : n ≤ cap) (hm : cap ≤ 9223372036854775807) (hsm : n < 4611686018427387904) (R : Ending → World → Prop)
  (hR : ∀ w', Below B w w' → g < w'.heap.size → RowL w' g 0 (ordL xs) → R (.returned (.slice (some ⟨g, 0, none⟩) (ordL xs).length cap)) w') :
  Calls Tryz.prog 293 #[.slice (some ⟨g, 0, none⟩) n cap, .func (.func 282) #[] #[]] w R := by
 subst hn
 have HR := Lib.hid hR
 have HROW := Lib.hid hrow
 clear hR hrow
 go_enter Tryz.func293, Tryz.ntmps293
 go_wp2_with fail
 refine sortLn_any xs g cap B _ HROW.out hg hB hsm _ ?_
 intro w1 ys hb1 hg1 hr1 hl1 hm1 hw1
 have HB1 := Lib.hid hb1
 have HR1 := Lib.hid hr1
 have hc : compL ys = ordL xs := (compL_ord hw1).trans (ordL_congr hm1)
 have HC := Lib.hid hc
 clear hb1 hr1 hm1 hw1 hc
 go_wp2_with fail
 refine compactLn_any ys g _ cap B _ hl1 HR1.out hg1 hB hcap hm _ ?_
 intro w2 hb2 hg2 hr2
 rw [HC.out] at hr2 ⊢
 have HF := Lib.hid (HR.out w2 (Below.trans HB1.out hb2) hg2 hr2)
 clear hb2 hr2
 go_wp2_with fail
 exact HF.out
set_option maxHeartbeats 4000000 in
theorem svalid_any (xs : List Ln) (op d a b : Int) (g n cap B : Nat) (w : World) (hn : xs.length = n) (hrow : RowL w g 0 xs) (hg : g < w.heap.size) (hB : B ≤ g) (hcap : n ≤ cap) (hm : cap ≤ 9223372036854775807) (hsm : n < 4611686018427387904) (R : Ending → World → Prop)
  (hR : ∀ w', Below B w w' → g < w'.heap.size → RowL w' g 0 (validL xs ⟨op, d, a, b⟩) → R (.returned (.slice (some ⟨g, 0, none⟩) (validL xs ⟨op, d, a, b⟩).length cap)) w') :
  Calls Tryz.prog 278 #[.slice (some ⟨g, 0, none⟩) n cap, .agg #[.int .i64 op, .int .i64 d, .int .i64 a, .int .i64 b]] w R := by
 have HR := Lib.hid hR
 have HROW := Lib.hid hrow
 have hv : validL xs ⟨op, d, a, b⟩ = ordL (keepL (prL ⟨op, d, a, b⟩) xs) := rfl
 rw [hv] at HR
 have hk := keepL_len (prL ⟨op, d, a, b⟩) xs
 clear hR hrow hv
 go_enter Tryz.func278, Tryz.ntmps278
 go_wp2_with fail
 refine deleteF_any xs ⟨op, d, a, b⟩ g n cap w.heap.size B _ hn hcap hm (HROW.out.grow ((Grow.refl _).alloc _) hg) (by rw [World.size_alloc]; omega) hB (heap_alloc_new _ _) (by omega) _ ?_
 intro w1 hb1 hg1 hr1
 have HB1 := Lib.hid (Below.trans (((Grow.refl w).alloc _).below (B := B) (by omega)) hb1)
 have HR1 := Lib.hid hr1
 clear hb1 hr1
 go_wp2_with fail
 refine ordered_any _ g _ cap B _ rfl HR1.out hg1 hB (by omega) hm (by omega) _ ?_
 intro w2 hb2 hg2 hr2
 have HF := Lib.hid (HR.out w2 (Below.trans HB1.out hb2) hg2 hr2)
 clear hb2 hr2
 go_wp2_with fail
 exact HF.out
set_option maxHeartbeats 4000000 in
theorem fields1_any (op d a b : Int) (bl : Nat) (w : World) (hop : op = 1) (hb : w.heap[bl]? = some (.cells #[.int .i64 op, .int .i64 d, .int .i64 a, .int .i64 b] 57 (0, 0))) (R : Ending → World → Prop)
  (hR : ∀ w', Grow w w' → w'.heap[w.heap.size]? = some (.cells #[.pointer (some ⟨bl, 1, none⟩)] 339 (0, 0)) → R (.returned (.slice (some ⟨w.heap.size, 0, none⟩) 1 1)) w') :
  Calls Tryz.prog 277 #[.pointer (some ⟨bl, 0, none⟩)] w R := by
 have HR := Lib.hid hR
 obtain ⟨e0, e1, e2, e3⟩ := box4 hb
 have hz := lt_of_block hb
 clear hR hb
 subst hop
 go_enter Tryz.func277, Tryz.ntmps277
 go_wp2_with fail
 exact HR.out _ ((Grow.refl _).alloc _) (heap_alloc_new _ _)
set_option maxHeartbeats 4000000 in
theorem fields2_any (op d a b : Int) (bl : Nat) (w : World) (hop : op = 2) (hb : w.heap[bl]? = some (.cells #[.int .i64 op, .int .i64 d, .int .i64 a, .int .i64 b] 57 (0, 0))) (R : Ending → World → Prop)
  (hR : ∀ w', Grow w w' → w'.heap[w.heap.size]? = some (.cells #[.pointer (some ⟨bl, 1, none⟩), .pointer (some ⟨bl, 2, none⟩)] 339 (0, 0)) → R (.returned (.slice (some ⟨w.heap.size, 0, none⟩) 2 2)) w') :
  Calls Tryz.prog 277 #[.pointer (some ⟨bl, 0, none⟩)] w R := by
 have HR := Lib.hid hR
 obtain ⟨e0, e1, e2, e3⟩ := box4 hb
 have hz := lt_of_block hb
 clear hR hb
 subst hop
 go_enter Tryz.func277, Tryz.ntmps277
 go_wp2_with fail
 go_region
 all_goals (go_wp2_with fail)
 all_goals (first | exact HR.out _ (((Grow.refl _).drew).alloc _) (heap_alloc_new _ _) | exact HR.out _ (((Grow.refl _).alloc _).drew) (heap_alloc_new _ _))
set_option maxHeartbeats 4000000 in
theorem fields7_any (op d a b : Int) (bl : Nat) (w : World) (hop : op = 7) (hb : w.heap[bl]? = some (.cells #[.int .i64 op, .int .i64 d, .int .i64 a, .int .i64 b] 57 (0, 0))) (R : Ending → World → Prop)
  (hR : ∀ w', Grow w w' → w'.heap[w.heap.size]? = some (.cells #[.pointer (some ⟨bl, 2, none⟩), .pointer (some ⟨bl, 3, none⟩)] 339 (0, 0)) → R (.returned (.slice (some ⟨w.heap.size, 0, none⟩) 2 2)) w') :
  Calls Tryz.prog 277 #[.pointer (some ⟨bl, 0, none⟩)] w R := by
 have HR := Lib.hid hR
 obtain ⟨e0, e1, e2, e3⟩ := box4 hb
 have hz := lt_of_block hb
 clear hR hb
 subst hop
 go_enter Tryz.func277, Tryz.ntmps277
 go_wp2_with fail
 go_region
 all_goals (go_wp2_with fail)
 all_goals (first | exact HR.out _ (((Grow.refl _).drew).alloc _) (heap_alloc_new _ _) | exact HR.out _ (((Grow.refl _).alloc _).drew) (heap_alloc_new _ _))
set_option maxHeartbeats 4000000 in
theorem fieldsG_any (op d a b : Int) (bl : Nat) (w : World) (hop : 3 ≤ op ∧ op ≤ 6) (hb : w.heap[bl]? = some (.cells #[.int .i64 op, .int .i64 d, .int .i64 a, .int .i64 b] 57 (0, 0))) (R : Ending → World → Prop)
  (hR : ∀ w', Grow w w' → w'.heap[w.heap.size]? = some (.cells #[.pointer (some ⟨bl, 1, none⟩), .pointer (some ⟨bl, 2, none⟩), .pointer (some ⟨bl, 3, none⟩)] 339 (0, 0)) → R (.returned (.slice (some ⟨w.heap.size, 0, none⟩) 3 3)) w') :
  Calls Tryz.prog 277 #[.pointer (some ⟨bl, 0, none⟩)] w R := by
 have HR := Lib.hid hR
 obtain ⟨e0, e1, e2, e3⟩ := box4 hb
 have hz := lt_of_block hb
 clear hR hb
 obtain ⟨h3, h6⟩ := hop
 have t1 : (op == 1) = false := by simp; omega
 have t2 : (op == 2) = false := by simp; omega
 have t7 : (op == 7) = false := by simp; omega
 have t0 : (op == 0) = false := by simp; omega
 go_enter Tryz.func277, Tryz.ntmps277
 go_wp2_with fail
 go_region
 all_goals (go_wp2_with fail)
 all_goals (first | exact HR.out _ (((Grow.refl _).drew).alloc _) (heap_alloc_new _ _) | exact HR.out _ (((Grow.refl _).alloc _).drew) (heap_alloc_new _ _))
end Go.Proofs.YtmeejlgnhfkeaaaGreatDoor

namespace Go.Proofs.YtmeejlgnhfkeaaaGreatDoor
open Go.RowKit
theorem info_ln : (Tryz.prog.info? 57).map (fun i => (i.zero, i.size, i.bytes)) = some (some (.agg #[.int .i64 0, .int .i64 0, .int .i64 0, .int .i64 0]), 4, 32) := by kernel_rfl
structure TI (w : World) (l : Ln) (xs : List Ln) (out : Value) (wr : World) : Prop where
 g : Grow w wr
 bx : wr.heap[w.heap.size]? = some (.cells #[.int .i64 l.op, .int .i64 l.d, .int .i64 l.a, .int .i64 l.b] 57 (0, 0))
 ow : wr.ownsRow (w.heap.size + 1) 57 4 out xs.length (xs.flatMap encL)
theorem TI.grow {w : World} {l : Ln} {xs : List Ln} {out : Value} {wr W : World} (h : TI w l xs out wr) (g : Grow wr W) : TI w l xs out W := ⟨h.g.trans g, g.blk h.bx, g.owns h.ow⟩
theorem TI.sz {w : World} {l : Ln} {xs : List Ln} {out : Value} {wr : World} (h : TI w l xs out wr) : w.heap.size + 1 ≤ wr.heap.size := lt_of_block h.bx
theorem TI.app {w : World} {l y : Ln} {xs : List Ln} {out out' : Value} {wr W w2 : World} (h : TI w l xs out wr) (g : Grow wr W) (ho : w2.ownsRow (w.heap.size + 1) 57 4 out' (xs ++ [y]).length ((xs ++ [y]).flatMap encL)) (hg : W.grownBy w2 out.ownBlock) : TI w l (xs ++ [y]) out' w2 :=
 have h2 := h.grow g
 ⟨grown_below h2.ow hg (by omega) h2.g.sz h2.g, grown_keep h2.ow hg (by omega) h2.bx, ho⟩
theorem news_gen (W : World) (n : Nat) (hn : W.heap.size = n) (cs : List Value) (t : TypeId) : ∀ j v, cs[j]? = some v → (W.alloc (.cells cs.toArray t)).cell? ((⟨n, 0, none⟩ : Addr).add j) = some v := hn ▸ news_one W cs t
theorem frz {w : World} {b : Nat} {cs : Array Value} {e : TypeId} (h : w.heap[b]? = some (.cells cs e (0, 0))) (o : Nat) : w.frozen? ⟨b, o, none⟩ = false := by
 unfold World.frozen?; simp only [h]; rfl
theorem cellOf {w : World} {b : Nat} {cs : Array Value} {e : TypeId} (h : w.heap[b]? = some (.cells cs e (0, 0))) (o : Nat) {v : Value} (hv : cs[o]? = some v) : w.cell? ⟨b, o, none⟩ = some v := by
 unfold World.cell?; simp only [h]; exact hv
theorem TI.end_ {w : World} {l : Ln} {xs : List Ln} {out : Value} {wr : World} (h : TI w l xs out wr) (hp : 0 < xs.length) : ∃ g cap, out = .slice (some ⟨g, 0, none⟩) xs.length cap ∧ w.heap.size + 1 ≤ g ∧ g < wr.heap.size ∧ xs.length ≤ cap ∧ cap ≤ 9223372036854775807 ∧ RowL wr g 0 xs := by
 have hr := h.ow
 rcases h.ow.2 with ⟨_, h0⟩ | ⟨g, cap, cur, rfl, hg, hh, _⟩
 ·omega
 ·obtain ⟨_, c, e, h1, h2, _⟩ := slc_of_owns encL_len h.ow
  cases e
  exact ⟨g, cap, rfl, hg, lt_of_block hh, h1, h2, RowL.of_own h.ow⟩
theorem snoc_range (pre : List Ln) (f : Nat → Ln) (r : Nat) : pre ++ (List.range (r + 1)).map f = pre ++ (List.range r).map f ++ [f r] := by
 rw [List.range_succ, List.map_append, List.append_assoc]; rfl
theorem insL_len (x : Ln) : ∀ l, (insL x l).length ≤ l.length + 1
 | [] => by simp [insL]
 | y :: r => by
  unfold insL
  have := insL_len x r
  split
  ·simp
  ·split <;> simp <;> omega
theorem ordL_len (xs : List Ln) : (ordL xs).length ≤ xs.length := by
 unfold ordL
 induction xs with
 | nil => simp
 | cons x r ih => have := insL_len x (r.foldr insL []); simp only [List.foldr_cons, List.length_cons]; omega
theorem validL_len (xs : List Ln) (but : Ln) : (validL xs but).length ≤ xs.length := Nat.le_trans (ordL_len _) (List.length_filter_le _ _)
end Go.Proofs.YtmeejlgnhfkeaaaGreatDoor

namespace Go.Proofs.YtmeejlgnhfkeaaaGreatDoor
open Go.RowKit
set_option maxRecDepth 100000 in
set_option maxHeartbeats 16000000 in
theorem templates1_any (op d a b : Int) (w : World) (hop : op = 1) (hok : vL op d a b = true) (R : Ending → World → Prop)
  (hR : ∀ w' v, Grow w w' → LinesAt w' v (tmpl ⟨op, d, a, b⟩) → R (.returned v) w') :
  Calls Tryz.prog 265 #[.agg #[.int .i64 op, .int .i64 d, .int .i64 a, .int .i64 b]] w R := by
 subst hop
 have hb : -9 ≤ a ∧ a ≤ 9 := by have := ok_cases (l := ⟨1, d, a, b⟩) hok; simp at this; omega
 have q1 : IntKind.i64.wrap (a + -1) = a + -1 := IntWalk.i64_in _ (by omega)
 have q2 : IntKind.i64.wrap (a + 1) = a + 1 := IntWalk.i64_in _ (by omega)
 have hraw : rawT (⟨1, d, a, b⟩ : Ln) = (([⟨0, 0, 0, 0⟩, ⟨1, d, a + -1, b⟩, ⟨1, d, a + 1, b⟩] : List Ln) ++ ((List.range 4).map fun n : Nat => (⟨1, (n : Int), a, b⟩ : Ln))) := by simp [rawT, byL, fldL, setF, List.range_succ]
 have htm : tmpl (⟨1, d, a, b⟩ : Ln) = validL (rawT (⟨1, d, a, b⟩ : Ln)) (⟨1, d, a, b⟩ : Ln) := by unfold tmpl; rw [if_neg (by simp)]
 rw [hraw] at htm
 rw [htm] at hR
 have HR := Lib.hid hR
 clear hR hraw htm hok
 go_enter Tryz.func265, Tryz.ntmps265
 go_wp2_with fail
 go_loopw [3, 4] (fun out by_ wr => ∃ xs, ((by_ = .int .i64 (-1) ∧ xs = [⟨0, 0, 0, 0⟩]) ∨ (by_ = .int .i64 1 ∧ xs = [⟨0, 0, 0, 0⟩, ⟨1, d, a + -1, b⟩]) ∨ (by_ = .int .i64 3 ∧ xs = [⟨0, 0, 0, 0⟩, ⟨1, d, a + -1, b⟩, ⟨1, d, a + 1, b⟩])) ∧ TI w (⟨1, d, a, b⟩ : Ln) xs out wr) (fun _ by_ _ => (3 - intOf by_).toNat)
 case atStart =>
  refine ⟨_, .inl ⟨rfl, rfl⟩, ((Grow.refl _).alloc _).alloc _, heap_two0 _ _ _, ?_⟩
  have := World.ownsRow_lit (w.alloc (.cells #[.int .i64 1, .int .i64 d, .int .i64 a, .int .i64 b] 57)) (base := w.heap.size + 1) (e := 57) (size := 4) #[.int .i64 0, .int .i64 0, .int .i64 0, .int .i64 0] 1 (by simp) (by simp [maxLen]) rfl
  rw [World.size_alloc] at this
  exact this
 case round =>
  obtain ⟨xs, hc, ht⟩ := hrel
  have HT := Lib.hid ht
  obtain ⟨e0, e1, e2, e3⟩ := box4 ht.bx
  have hz := lt_of_block ht.bx
  clear ht
  rcases hc with ⟨rfl, rfl⟩ | ⟨rfl, rfl⟩ | ⟨rfl, rfl⟩
  ·skip
   go_wp2_with (at_builtin; refine wpList_app _ rfl (.tmp 38) (.tmp 40) 22 rfl (w.heap.size + 1) 57 Tryz.underlying22 info_ln rfl (by decide) (by decide) encL encL_len encL_one _ ([⟨0, 0, 0, 0⟩]) rfl (HT.out.grow (by first | exact Grow.alloc (Grow.drew (Below.setCell (Below.setCell HG9.out (Nat.le_refl _) _) (Nat.le_refl _) _)) _ | exact Grow.alloc (Below.setCell (Below.setCell HG9.out (Nat.le_refl _) _) (Nat.le_refl _) _) _ | exact Grow.alloc (Below.setCell (Below.setCell (Grow.drew HG9.out) (Nat.le_refl _) _) (Nat.le_refl _) _) _ | exact ((Grow.refl _).alloc _).alloc _ | exact Grow.alloc (Below.setCell HG3.out (Nat.le_refl _) _) _ | exact Grow.alloc (Below.setCell ((Grow.refl _).alloc _) (Nat.le_refl _) _) _ | exact Grow.alloc (Grow.drew (Below.setCell (Below.setCell ((Grow.refl _).alloc _) (Nat.le_refl _) _) (Nat.le_refl _) _)) _ | exact Grow.alloc (Below.setCell (Below.setCell ((Grow.refl _).alloc _) (Nat.le_refl _) _) (Nat.le_refl _) _) _ | exact (((Grow.refl _).alloc _).drew).alloc _)).ow _ (⟨1, d, a + -1, b⟩) 1 rfl (news_gen _ _ (by simp) (encL (⟨1, d, a + -1, b⟩)) _) (by simp; try omega) (by have := HT.out.sz; simp; omega) ?_; intro out2 w2 hown2 hgr2)
   have HT2 := Lib.hid (HT.out.app (y := ⟨1, d, a + -1, b⟩) (by first | exact Grow.alloc (Grow.drew (Below.setCell (Below.setCell HG9.out (Nat.le_refl _) _) (Nat.le_refl _) _)) _ | exact Grow.alloc (Below.setCell (Below.setCell HG9.out (Nat.le_refl _) _) (Nat.le_refl _) _) _ | exact Grow.alloc (Below.setCell (Below.setCell (Grow.drew HG9.out) (Nat.le_refl _) _) (Nat.le_refl _) _) _ | exact ((Grow.refl _).alloc _).alloc _ | exact Grow.alloc (Below.setCell HG3.out (Nat.le_refl _) _) _ | exact Grow.alloc (Below.setCell ((Grow.refl _).alloc _) (Nat.le_refl _) _) _ | exact Grow.alloc (Grow.drew (Below.setCell (Below.setCell ((Grow.refl _).alloc _) (Nat.le_refl _) _) (Nat.le_refl _) _)) _ | exact Grow.alloc (Below.setCell (Below.setCell ((Grow.refl _).alloc _) (Nat.le_refl _) _) (Nat.le_refl _) _) _ | exact (((Grow.refl _).alloc _).drew).alloc _) hown2 hgr2)
   clear hown2 hgr2
   go_roundw
   case rel => exact ⟨_, .inr (.inl ⟨by first | rfl | go_num, rfl⟩), HT2.out⟩
   case measure => simp [intOf]; done
  ·skip
   go_wp2_with (at_builtin; refine wpList_app _ rfl (.tmp 38) (.tmp 40) 22 rfl (w.heap.size + 1) 57 Tryz.underlying22 info_ln rfl (by decide) (by decide) encL encL_len encL_one _ ([⟨0, 0, 0, 0⟩, ⟨1, d, a + -1, b⟩]) rfl (HT.out.grow (by first | exact Grow.alloc (Grow.drew (Below.setCell (Below.setCell HG9.out (Nat.le_refl _) _) (Nat.le_refl _) _)) _ | exact Grow.alloc (Below.setCell (Below.setCell HG9.out (Nat.le_refl _) _) (Nat.le_refl _) _) _ | exact Grow.alloc (Below.setCell (Below.setCell (Grow.drew HG9.out) (Nat.le_refl _) _) (Nat.le_refl _) _) _ | exact ((Grow.refl _).alloc _).alloc _ | exact Grow.alloc (Below.setCell HG3.out (Nat.le_refl _) _) _ | exact Grow.alloc (Below.setCell ((Grow.refl _).alloc _) (Nat.le_refl _) _) _ | exact Grow.alloc (Grow.drew (Below.setCell (Below.setCell ((Grow.refl _).alloc _) (Nat.le_refl _) _) (Nat.le_refl _) _)) _ | exact Grow.alloc (Below.setCell (Below.setCell ((Grow.refl _).alloc _) (Nat.le_refl _) _) (Nat.le_refl _) _) _ | exact (((Grow.refl _).alloc _).drew).alloc _)).ow _ (⟨1, d, a + 1, b⟩) 1 rfl (news_gen _ _ (by simp) (encL (⟨1, d, a + 1, b⟩)) _) (by simp; try omega) (by have := HT.out.sz; simp; omega) ?_; intro out2 w2 hown2 hgr2)
   have HT2 := Lib.hid (HT.out.app (y := ⟨1, d, a + 1, b⟩) (by first | exact Grow.alloc (Grow.drew (Below.setCell (Below.setCell HG9.out (Nat.le_refl _) _) (Nat.le_refl _) _)) _ | exact Grow.alloc (Below.setCell (Below.setCell HG9.out (Nat.le_refl _) _) (Nat.le_refl _) _) _ | exact Grow.alloc (Below.setCell (Below.setCell (Grow.drew HG9.out) (Nat.le_refl _) _) (Nat.le_refl _) _) _ | exact ((Grow.refl _).alloc _).alloc _ | exact Grow.alloc (Below.setCell HG3.out (Nat.le_refl _) _) _ | exact Grow.alloc (Below.setCell ((Grow.refl _).alloc _) (Nat.le_refl _) _) _ | exact Grow.alloc (Grow.drew (Below.setCell (Below.setCell ((Grow.refl _).alloc _) (Nat.le_refl _) _) (Nat.le_refl _) _)) _ | exact Grow.alloc (Below.setCell (Below.setCell ((Grow.refl _).alloc _) (Nat.le_refl _) _) (Nat.le_refl _) _) _ | exact (((Grow.refl _).alloc _).drew).alloc _) hown2 hgr2)
   clear hown2 hgr2
   go_roundw
   case rel => exact ⟨_, .inr (.inr ⟨by first | rfl | go_num, rfl⟩), HT2.out⟩
   case measure => simp [intOf]; done
  ·go_wp2_with fail
   refine fields1_any 1 d a b w.heap.size _ rfl HT.out.bx _ ?_
   intro w1 hg1 _
   have HTF := Lib.hid (HT.out.grow hg1)
   clear hg1 HT e0 e1 e2 e3 hz
   go_wp2_with fail
   go_loopw [3, 44] (fun out k wr => ∃ xs, ((k = .int .i64 0 ∧ xs = (([⟨0, 0, 0, 0⟩, ⟨1, d, a + -1, b⟩, ⟨1, d, a + 1, b⟩] : List Ln))) ∨ (k = .int .i64 1 ∧ xs = (([⟨0, 0, 0, 0⟩, ⟨1, d, a + -1, b⟩, ⟨1, d, a + 1, b⟩] : List Ln) ++ ((List.range 4).map fun n : Nat => (⟨1, (n : Int), a, b⟩ : Ln))))) ∧ TI w (⟨1, d, a, b⟩ : Ln) xs out wr) (fun _ k _ => (1 - intOf k).toNat)
   case atStart => exact ⟨_, .inl ⟨rfl, rfl⟩, HTF.out⟩
   case round =>
    obtain ⟨xs, hc, ht⟩ := hrel
    have HT := Lib.hid ht
    clear ht HTF
    rcases hc with ⟨rfl, rfl⟩ | ⟨rfl, rfl⟩
    ·go_wp2_with fail
     go_loopw [3, 47] (fun out i wr => ∃ r : Nat, r ≤ 4 ∧ i = .int .i64 r ∧ TI w (⟨1, d, a, b⟩ : Ln) ((([⟨0, 0, 0, 0⟩, ⟨1, d, a + -1, b⟩, ⟨1, d, a + 1, b⟩] : List Ln)) ++ (List.range r).map (fun n : Nat => (⟨1, (n : Int), a, b⟩ : Ln))) out wr) (fun _ i _ => (4 - intOf i).toNat)
     case atStart => exact ⟨0, by omega, rfl, by rw [List.range_zero, List.map_nil, List.append_nil]; exact HT.out⟩
     case round =>
      obtain ⟨r, hr, rfl, ht⟩ := hrel
      clear HT
      have HT := Lib.hid ht
      obtain ⟨e0, e1, e2, e3⟩ := box4 ht.bx
      have hz := lt_of_block ht.bx
      clear ht
      by_cases hlt : r < 4
      ·have hlt2 : (r : Int) < 4 := by omega
       go_wp2_with fail
       refine fields1_any 1 d a b wr.heap.size _ rfl (heap_alloc_new _ _) _ ?_
       intro w3 hg3 hp3
       rw [World.size_alloc] at hp3 ⊢
       have hm3 := hg3.blk (heap_alloc_new wr (.cells #[.int .i64 1, .int .i64 d, .int .i64 a, .int .i64 b] 57))
       have HG3 := Lib.hid (((Grow.refl wr).alloc _).trans hg3)
       obtain ⟨f0, f1, f2, f3⟩ := box4 hm3
       have p0 := cellOf hp3 0 rfl
       have z3 := frz hm3 1
       have hzm := lt_of_block hm3
       have hzp := lt_of_block hp3
       clear hg3 hp3 hm3 e0 e1 e2 e3
       go_wp2_with (at_builtin; refine wpList_app _ rfl (.tmp 57) (.tmp 59) 22 rfl (w.heap.size + 1) 57 Tryz.underlying22 info_ln rfl (by decide) (by decide) encL encL_len encL_one _ ((([⟨0, 0, 0, 0⟩, ⟨1, d, a + -1, b⟩, ⟨1, d, a + 1, b⟩] : List Ln)) ++ (List.range r).map (fun n : Nat => (⟨1, (n : Int), a, b⟩ : Ln))) rfl (HT.out.grow (by first | exact Grow.alloc (Grow.drew (Below.setCell (Below.setCell HG9.out (Nat.le_refl _) _) (Nat.le_refl _) _)) _ | exact Grow.alloc (Below.setCell (Below.setCell HG9.out (Nat.le_refl _) _) (Nat.le_refl _) _) _ | exact Grow.alloc (Below.setCell (Below.setCell (Grow.drew HG9.out) (Nat.le_refl _) _) (Nat.le_refl _) _) _ | exact ((Grow.refl _).alloc _).alloc _ | exact Grow.alloc (Below.setCell HG3.out (Nat.le_refl _) _) _ | exact Grow.alloc (Below.setCell ((Grow.refl _).alloc _) (Nat.le_refl _) _) _ | exact Grow.alloc (Grow.drew (Below.setCell (Below.setCell ((Grow.refl _).alloc _) (Nat.le_refl _) _) (Nat.le_refl _) _)) _ | exact Grow.alloc (Below.setCell (Below.setCell ((Grow.refl _).alloc _) (Nat.le_refl _) _) (Nat.le_refl _) _) _ | exact (((Grow.refl _).alloc _).drew).alloc _)).ow _ (⟨1, (r : Int), a, b⟩) 1 rfl (news_gen _ _ (by simp) (encL (⟨1, (r : Int), a, b⟩)) _) (by simp; try omega) (by have := HT.out.sz; simp; omega) ?_; intro out2 w2 hown2 hgr2)
       have HT2 := Lib.hid (HT.out.app (y := ⟨1, (r : Int), a, b⟩) (by first | exact Grow.alloc (Grow.drew (Below.setCell (Below.setCell HG9.out (Nat.le_refl _) _) (Nat.le_refl _) _)) _ | exact Grow.alloc (Below.setCell (Below.setCell HG9.out (Nat.le_refl _) _) (Nat.le_refl _) _) _ | exact Grow.alloc (Below.setCell (Below.setCell (Grow.drew HG9.out) (Nat.le_refl _) _) (Nat.le_refl _) _) _ | exact ((Grow.refl _).alloc _).alloc _ | exact Grow.alloc (Below.setCell HG3.out (Nat.le_refl _) _) _ | exact Grow.alloc (Below.setCell ((Grow.refl _).alloc _) (Nat.le_refl _) _) _ | exact Grow.alloc (Grow.drew (Below.setCell (Below.setCell ((Grow.refl _).alloc _) (Nat.le_refl _) _) (Nat.le_refl _) _)) _ | exact Grow.alloc (Below.setCell (Below.setCell ((Grow.refl _).alloc _) (Nat.le_refl _) _) (Nat.le_refl _) _) _ | exact (((Grow.refl _).alloc _).drew).alloc _) hown2 hgr2)
       clear hown2 hgr2
       go_roundw
       case rel => exact ⟨r + 1, by omega, by go_num, by rw [snoc_range _ _ r]; exact HT2.out⟩
       case measure => simp [intOf]; omega
      ·have hr4 : r = 4 := by omega
       subst hr4
       go_wp2_with fail
       go_roundw
       case rel => exact ⟨_, .inr ( ⟨by first | rfl | go_num, rfl⟩), HT.out⟩
       case measure => simp [intOf]
    ·obtain ⟨e0, e1, e2, e3⟩ := box4 HT.out.bx
     have hz := lt_of_block HT.out.bx
     go_wp2_with fail
     refine swithin_any _ _ _ _ _ ?_
     rw [show inB 1 3 6 = false from by decide]
     obtain ⟨g, cap, rfl, hg1, hg2, hc1, hc2, hrow⟩ := HT.out.end_ (by simp)
     have HROW := Lib.hid hrow
     clear hrow
     go_wp2_with fail
     refine svalid_any ((([⟨0, 0, 0, 0⟩, ⟨1, d, a + -1, b⟩, ⟨1, d, a + 1, b⟩] : List Ln) ++ ((List.range 4).map fun n : Nat => (⟨1, (n : Int), a, b⟩ : Ln)))) 1 d a b g 7 cap w.heap.size _ (by simp) HROW.out hg2 (by omega) (by simpa using hc1) hc2 (by decide) _ ?_
     intro w3 hb3 hg3 hr3
     have hle : (validL ((([⟨0, 0, 0, 0⟩, ⟨1, d, a + -1, b⟩, ⟨1, d, a + 1, b⟩] : List Ln) ++ ((List.range 4).map fun n : Nat => (⟨1, (n : Int), a, b⟩ : Ln)))) (⟨1, d, a, b⟩ : Ln)).length ≤ cap := Nat.le_trans (validL_len _ _) hc1
     have HF := Lib.hid (HR.out _ _ (Below.trans HT.out.g hb3) (hr3.slc hg3 hle hc2))
     clear hb3 hr3
     go_wp2_with fail
     exact HF.out
set_option maxRecDepth 100000 in
set_option maxHeartbeats 16000000 in
theorem templates2_any (op d a b : Int) (w : World) (hop : op = 2) (hok : vL op d a b = true) (R : Ending → World → Prop)
  (hR : ∀ w' v, Grow w w' → LinesAt w' v (tmpl ⟨op, d, a, b⟩) → R (.returned v) w') :
  Calls Tryz.prog 265 #[.agg #[.int .i64 op, .int .i64 d, .int .i64 a, .int .i64 b]] w R := by
 subst hop
 have hraw : rawT (⟨2, d, a, b⟩ : Ln) = (([⟨0, 0, 0, 0⟩, ⟨2, d, a, b⟩, ⟨2, d, a, b⟩] : List Ln) ++ ((List.range 4).map fun n : Nat => (⟨2, (n : Int), a, b⟩ : Ln)) ++ ((List.range 4).map fun n : Nat => (⟨2, d, (n : Int), b⟩ : Ln))) := by simp [rawT, byL, fldL, setF, List.range_succ]
 have htm : tmpl (⟨2, d, a, b⟩ : Ln) = validL (rawT (⟨2, d, a, b⟩ : Ln)) (⟨2, d, a, b⟩ : Ln) := by unfold tmpl; rw [if_neg (by simp)]
 rw [hraw] at htm
 rw [htm] at hR
 have HR := Lib.hid hR
 clear hR hraw htm hok
 go_enter Tryz.func265, Tryz.ntmps265
 go_wp2_with fail
 go_loopw [3, 4] (fun out by_ wr => ∃ xs, ((by_ = .int .i64 (-1) ∧ xs = [⟨0, 0, 0, 0⟩]) ∨ (by_ = .int .i64 1 ∧ xs = [⟨0, 0, 0, 0⟩, ⟨2, d, a, b⟩]) ∨ (by_ = .int .i64 3 ∧ xs = [⟨0, 0, 0, 0⟩, ⟨2, d, a, b⟩, ⟨2, d, a, b⟩])) ∧ TI w (⟨2, d, a, b⟩ : Ln) xs out wr) (fun _ by_ _ => (3 - intOf by_).toNat)
 case atStart =>
  refine ⟨_, .inl ⟨rfl, rfl⟩, ((Grow.refl _).alloc _).alloc _, heap_two0 _ _ _, ?_⟩
  have := World.ownsRow_lit (w.alloc (.cells #[.int .i64 2, .int .i64 d, .int .i64 a, .int .i64 b] 57)) (base := w.heap.size + 1) (e := 57) (size := 4) #[.int .i64 0, .int .i64 0, .int .i64 0, .int .i64 0] 1 (by simp) (by simp [maxLen]) rfl
  rw [World.size_alloc] at this
  exact this
 case round =>
  obtain ⟨xs, hc, ht⟩ := hrel
  have HT := Lib.hid ht
  obtain ⟨e0, e1, e2, e3⟩ := box4 ht.bx
  have hz := lt_of_block ht.bx
  clear ht
  rcases hc with ⟨rfl, rfl⟩ | ⟨rfl, rfl⟩ | ⟨rfl, rfl⟩
  ·skip
   go_wp2_with (at_builtin; refine wpList_app _ rfl (.tmp 38) (.tmp 40) 22 rfl (w.heap.size + 1) 57 Tryz.underlying22 info_ln rfl (by decide) (by decide) encL encL_len encL_one _ ([⟨0, 0, 0, 0⟩]) rfl (HT.out.grow (by first | exact Grow.alloc (Grow.drew (Below.setCell (Below.setCell HG9.out (Nat.le_refl _) _) (Nat.le_refl _) _)) _ | exact Grow.alloc (Below.setCell (Below.setCell HG9.out (Nat.le_refl _) _) (Nat.le_refl _) _) _ | exact Grow.alloc (Below.setCell (Below.setCell (Grow.drew HG9.out) (Nat.le_refl _) _) (Nat.le_refl _) _) _ | exact ((Grow.refl _).alloc _).alloc _ | exact Grow.alloc (Below.setCell HG3.out (Nat.le_refl _) _) _ | exact Grow.alloc (Below.setCell ((Grow.refl _).alloc _) (Nat.le_refl _) _) _ | exact Grow.alloc (Grow.drew (Below.setCell (Below.setCell ((Grow.refl _).alloc _) (Nat.le_refl _) _) (Nat.le_refl _) _)) _ | exact Grow.alloc (Below.setCell (Below.setCell ((Grow.refl _).alloc _) (Nat.le_refl _) _) (Nat.le_refl _) _) _ | exact (((Grow.refl _).alloc _).drew).alloc _)).ow _ (⟨2, d, a, b⟩) 1 rfl (news_gen _ _ (by simp) (encL (⟨2, d, a, b⟩)) _) (by simp; try omega) (by have := HT.out.sz; simp; omega) ?_; intro out2 w2 hown2 hgr2)
   have HT2 := Lib.hid (HT.out.app (y := ⟨2, d, a, b⟩) (by first | exact Grow.alloc (Grow.drew (Below.setCell (Below.setCell HG9.out (Nat.le_refl _) _) (Nat.le_refl _) _)) _ | exact Grow.alloc (Below.setCell (Below.setCell HG9.out (Nat.le_refl _) _) (Nat.le_refl _) _) _ | exact Grow.alloc (Below.setCell (Below.setCell (Grow.drew HG9.out) (Nat.le_refl _) _) (Nat.le_refl _) _) _ | exact ((Grow.refl _).alloc _).alloc _ | exact Grow.alloc (Below.setCell HG3.out (Nat.le_refl _) _) _ | exact Grow.alloc (Below.setCell ((Grow.refl _).alloc _) (Nat.le_refl _) _) _ | exact Grow.alloc (Grow.drew (Below.setCell (Below.setCell ((Grow.refl _).alloc _) (Nat.le_refl _) _) (Nat.le_refl _) _)) _ | exact Grow.alloc (Below.setCell (Below.setCell ((Grow.refl _).alloc _) (Nat.le_refl _) _) (Nat.le_refl _) _) _ | exact (((Grow.refl _).alloc _).drew).alloc _) hown2 hgr2)
   clear hown2 hgr2
   go_roundw
   case rel => exact ⟨_, .inr (.inl ⟨by first | rfl | go_num, rfl⟩), HT2.out⟩
   case measure => simp [intOf]; done
  ·skip
   go_wp2_with (at_builtin; refine wpList_app _ rfl (.tmp 38) (.tmp 40) 22 rfl (w.heap.size + 1) 57 Tryz.underlying22 info_ln rfl (by decide) (by decide) encL encL_len encL_one _ ([⟨0, 0, 0, 0⟩, ⟨2, d, a, b⟩]) rfl (HT.out.grow (by first | exact Grow.alloc (Grow.drew (Below.setCell (Below.setCell HG9.out (Nat.le_refl _) _) (Nat.le_refl _) _)) _ | exact Grow.alloc (Below.setCell (Below.setCell HG9.out (Nat.le_refl _) _) (Nat.le_refl _) _) _ | exact Grow.alloc (Below.setCell (Below.setCell (Grow.drew HG9.out) (Nat.le_refl _) _) (Nat.le_refl _) _) _ | exact ((Grow.refl _).alloc _).alloc _ | exact Grow.alloc (Below.setCell HG3.out (Nat.le_refl _) _) _ | exact Grow.alloc (Below.setCell ((Grow.refl _).alloc _) (Nat.le_refl _) _) _ | exact Grow.alloc (Grow.drew (Below.setCell (Below.setCell ((Grow.refl _).alloc _) (Nat.le_refl _) _) (Nat.le_refl _) _)) _ | exact Grow.alloc (Below.setCell (Below.setCell ((Grow.refl _).alloc _) (Nat.le_refl _) _) (Nat.le_refl _) _) _ | exact (((Grow.refl _).alloc _).drew).alloc _)).ow _ (⟨2, d, a, b⟩) 1 rfl (news_gen _ _ (by simp) (encL (⟨2, d, a, b⟩)) _) (by simp; try omega) (by have := HT.out.sz; simp; omega) ?_; intro out2 w2 hown2 hgr2)
   have HT2 := Lib.hid (HT.out.app (y := ⟨2, d, a, b⟩) (by first | exact Grow.alloc (Grow.drew (Below.setCell (Below.setCell HG9.out (Nat.le_refl _) _) (Nat.le_refl _) _)) _ | exact Grow.alloc (Below.setCell (Below.setCell HG9.out (Nat.le_refl _) _) (Nat.le_refl _) _) _ | exact Grow.alloc (Below.setCell (Below.setCell (Grow.drew HG9.out) (Nat.le_refl _) _) (Nat.le_refl _) _) _ | exact ((Grow.refl _).alloc _).alloc _ | exact Grow.alloc (Below.setCell HG3.out (Nat.le_refl _) _) _ | exact Grow.alloc (Below.setCell ((Grow.refl _).alloc _) (Nat.le_refl _) _) _ | exact Grow.alloc (Grow.drew (Below.setCell (Below.setCell ((Grow.refl _).alloc _) (Nat.le_refl _) _) (Nat.le_refl _) _)) _ | exact Grow.alloc (Below.setCell (Below.setCell ((Grow.refl _).alloc _) (Nat.le_refl _) _) (Nat.le_refl _) _) _ | exact (((Grow.refl _).alloc _).drew).alloc _) hown2 hgr2)
   clear hown2 hgr2
   go_roundw
   case rel => exact ⟨_, .inr (.inr ⟨by first | rfl | go_num, rfl⟩), HT2.out⟩
   case measure => simp [intOf]; done
  ·go_wp2_with fail
   refine fields2_any 2 d a b w.heap.size _ rfl HT.out.bx _ ?_
   intro w1 hg1 _
   have HTF := Lib.hid (HT.out.grow hg1)
   clear hg1 HT e0 e1 e2 e3 hz
   go_wp2_with fail
   go_loopw [3, 44] (fun out k wr => ∃ xs, ((k = .int .i64 0 ∧ xs = (([⟨0, 0, 0, 0⟩, ⟨2, d, a, b⟩, ⟨2, d, a, b⟩] : List Ln))) ∨ (k = .int .i64 1 ∧ xs = (([⟨0, 0, 0, 0⟩, ⟨2, d, a, b⟩, ⟨2, d, a, b⟩] : List Ln) ++ ((List.range 4).map fun n : Nat => (⟨2, (n : Int), a, b⟩ : Ln)))) ∨ (k = .int .i64 2 ∧ xs = (([⟨0, 0, 0, 0⟩, ⟨2, d, a, b⟩, ⟨2, d, a, b⟩] : List Ln) ++ ((List.range 4).map fun n : Nat => (⟨2, (n : Int), a, b⟩ : Ln)) ++ ((List.range 4).map fun n : Nat => (⟨2, d, (n : Int), b⟩ : Ln))))) ∧ TI w (⟨2, d, a, b⟩ : Ln) xs out wr) (fun _ k _ => (2 - intOf k).toNat)
   case atStart => exact ⟨_, .inl ⟨rfl, rfl⟩, HTF.out⟩
   case round =>
    obtain ⟨xs, hc, ht⟩ := hrel
    have HT := Lib.hid ht
    clear ht HTF
    rcases hc with ⟨rfl, rfl⟩ | ⟨rfl, rfl⟩ | ⟨rfl, rfl⟩
    ·go_wp2_with fail
     go_loopw [3, 47] (fun out i wr => ∃ r : Nat, r ≤ 4 ∧ i = .int .i64 r ∧ TI w (⟨2, d, a, b⟩ : Ln) ((([⟨0, 0, 0, 0⟩, ⟨2, d, a, b⟩, ⟨2, d, a, b⟩] : List Ln)) ++ (List.range r).map (fun n : Nat => (⟨2, (n : Int), a, b⟩ : Ln))) out wr) (fun _ i _ => (4 - intOf i).toNat)
     case atStart => exact ⟨0, by omega, rfl, by rw [List.range_zero, List.map_nil, List.append_nil]; exact HT.out⟩
     case round =>
      obtain ⟨r, hr, rfl, ht⟩ := hrel
      clear HT
      have HT := Lib.hid ht
      obtain ⟨e0, e1, e2, e3⟩ := box4 ht.bx
      have hz := lt_of_block ht.bx
      clear ht
      by_cases hlt : r < 4
      ·have hlt2 : (r : Int) < 4 := by omega
       go_wp2_with fail
       refine fields2_any 2 d a b wr.heap.size _ rfl (heap_alloc_new _ _) _ ?_
       intro w3 hg3 hp3
       rw [World.size_alloc] at hp3 ⊢
       have hm3 := hg3.blk (heap_alloc_new wr (.cells #[.int .i64 2, .int .i64 d, .int .i64 a, .int .i64 b] 57))
       have HG3 := Lib.hid (((Grow.refl wr).alloc _).trans hg3)
       obtain ⟨f0, f1, f2, f3⟩ := box4 hm3
       have p0 := cellOf hp3 0 rfl
       have p1 := cellOf hp3 1 rfl
       have z3 := frz hm3 1
       have hzm := lt_of_block hm3
       have hzp := lt_of_block hp3
       clear hg3 hp3 hm3 e0 e1 e2 e3
       go_wp2_with (at_builtin; refine wpList_app _ rfl (.tmp 57) (.tmp 59) 22 rfl (w.heap.size + 1) 57 Tryz.underlying22 info_ln rfl (by decide) (by decide) encL encL_len encL_one _ ((([⟨0, 0, 0, 0⟩, ⟨2, d, a, b⟩, ⟨2, d, a, b⟩] : List Ln)) ++ (List.range r).map (fun n : Nat => (⟨2, (n : Int), a, b⟩ : Ln))) rfl (HT.out.grow (by first | exact Grow.alloc (Grow.drew (Below.setCell (Below.setCell HG9.out (Nat.le_refl _) _) (Nat.le_refl _) _)) _ | exact Grow.alloc (Below.setCell (Below.setCell HG9.out (Nat.le_refl _) _) (Nat.le_refl _) _) _ | exact Grow.alloc (Below.setCell (Below.setCell (Grow.drew HG9.out) (Nat.le_refl _) _) (Nat.le_refl _) _) _ | exact ((Grow.refl _).alloc _).alloc _ | exact Grow.alloc (Below.setCell HG3.out (Nat.le_refl _) _) _ | exact Grow.alloc (Below.setCell ((Grow.refl _).alloc _) (Nat.le_refl _) _) _ | exact Grow.alloc (Grow.drew (Below.setCell (Below.setCell ((Grow.refl _).alloc _) (Nat.le_refl _) _) (Nat.le_refl _) _)) _ | exact Grow.alloc (Below.setCell (Below.setCell ((Grow.refl _).alloc _) (Nat.le_refl _) _) (Nat.le_refl _) _) _ | exact (((Grow.refl _).alloc _).drew).alloc _)).ow _ (⟨2, (r : Int), a, b⟩) 1 rfl (news_gen _ _ (by simp) (encL (⟨2, (r : Int), a, b⟩)) _) (by simp; try omega) (by have := HT.out.sz; simp; omega) ?_; intro out2 w2 hown2 hgr2)
       have HT2 := Lib.hid (HT.out.app (y := ⟨2, (r : Int), a, b⟩) (by first | exact Grow.alloc (Grow.drew (Below.setCell (Below.setCell HG9.out (Nat.le_refl _) _) (Nat.le_refl _) _)) _ | exact Grow.alloc (Below.setCell (Below.setCell HG9.out (Nat.le_refl _) _) (Nat.le_refl _) _) _ | exact Grow.alloc (Below.setCell (Below.setCell (Grow.drew HG9.out) (Nat.le_refl _) _) (Nat.le_refl _) _) _ | exact ((Grow.refl _).alloc _).alloc _ | exact Grow.alloc (Below.setCell HG3.out (Nat.le_refl _) _) _ | exact Grow.alloc (Below.setCell ((Grow.refl _).alloc _) (Nat.le_refl _) _) _ | exact Grow.alloc (Grow.drew (Below.setCell (Below.setCell ((Grow.refl _).alloc _) (Nat.le_refl _) _) (Nat.le_refl _) _)) _ | exact Grow.alloc (Below.setCell (Below.setCell ((Grow.refl _).alloc _) (Nat.le_refl _) _) (Nat.le_refl _) _) _ | exact (((Grow.refl _).alloc _).drew).alloc _) hown2 hgr2)
       clear hown2 hgr2
       go_roundw
       case rel => exact ⟨r + 1, by omega, by go_num, by rw [snoc_range _ _ r]; exact HT2.out⟩
       case measure => simp [intOf]; omega
      ·have hr4 : r = 4 := by omega
       subst hr4
       go_wp2_with fail
       go_roundw
       case rel => exact ⟨_, .inr (.inl ⟨by first | rfl | go_num, rfl⟩), HT.out⟩
       case measure => simp [intOf]
    ·go_wp2_with fail
     go_loopw [3, 47] (fun out i wr => ∃ r : Nat, r ≤ 4 ∧ i = .int .i64 r ∧ TI w (⟨2, d, a, b⟩ : Ln) ((([⟨0, 0, 0, 0⟩, ⟨2, d, a, b⟩, ⟨2, d, a, b⟩] : List Ln) ++ ((List.range 4).map fun n : Nat => (⟨2, (n : Int), a, b⟩ : Ln))) ++ (List.range r).map (fun n : Nat => (⟨2, d, (n : Int), b⟩ : Ln))) out wr) (fun _ i _ => (4 - intOf i).toNat)
     case atStart => exact ⟨0, by omega, rfl, by rw [List.range_zero, List.map_nil, List.append_nil]; exact HT.out⟩
     case round =>
      obtain ⟨r, hr, rfl, ht⟩ := hrel
      clear HT
      have HT := Lib.hid ht
      obtain ⟨e0, e1, e2, e3⟩ := box4 ht.bx
      have hz := lt_of_block ht.bx
      clear ht
      by_cases hlt : r < 4
      ·have hlt2 : (r : Int) < 4 := by omega
       go_wp2_with fail
       refine fields2_any 2 d a b wr.heap.size _ rfl (heap_alloc_new _ _) _ ?_
       intro w3 hg3 hp3
       rw [World.size_alloc] at hp3 ⊢
       have hm3 := hg3.blk (heap_alloc_new wr (.cells #[.int .i64 2, .int .i64 d, .int .i64 a, .int .i64 b] 57))
       have HG3 := Lib.hid (((Grow.refl wr).alloc _).trans hg3)
       obtain ⟨f0, f1, f2, f3⟩ := box4 hm3
       have p0 := cellOf hp3 0 rfl
       have p1 := cellOf hp3 1 rfl
       have z3 := frz hm3 2
       have hzm := lt_of_block hm3
       have hzp := lt_of_block hp3
       clear hg3 hp3 hm3 e0 e1 e2 e3
       go_wp2_with (at_builtin; refine wpList_app _ rfl (.tmp 57) (.tmp 59) 22 rfl (w.heap.size + 1) 57 Tryz.underlying22 info_ln rfl (by decide) (by decide) encL encL_len encL_one _ ((([⟨0, 0, 0, 0⟩, ⟨2, d, a, b⟩, ⟨2, d, a, b⟩] : List Ln) ++ ((List.range 4).map fun n : Nat => (⟨2, (n : Int), a, b⟩ : Ln))) ++ (List.range r).map (fun n : Nat => (⟨2, d, (n : Int), b⟩ : Ln))) rfl (HT.out.grow (by first | exact Grow.alloc (Grow.drew (Below.setCell (Below.setCell HG9.out (Nat.le_refl _) _) (Nat.le_refl _) _)) _ | exact Grow.alloc (Below.setCell (Below.setCell HG9.out (Nat.le_refl _) _) (Nat.le_refl _) _) _ | exact Grow.alloc (Below.setCell (Below.setCell (Grow.drew HG9.out) (Nat.le_refl _) _) (Nat.le_refl _) _) _ | exact ((Grow.refl _).alloc _).alloc _ | exact Grow.alloc (Below.setCell HG3.out (Nat.le_refl _) _) _ | exact Grow.alloc (Below.setCell ((Grow.refl _).alloc _) (Nat.le_refl _) _) _ | exact Grow.alloc (Grow.drew (Below.setCell (Below.setCell ((Grow.refl _).alloc _) (Nat.le_refl _) _) (Nat.le_refl _) _)) _ | exact Grow.alloc (Below.setCell (Below.setCell ((Grow.refl _).alloc _) (Nat.le_refl _) _) (Nat.le_refl _) _) _ | exact (((Grow.refl _).alloc _).drew).alloc _)).ow _ (⟨2, d, (r : Int), b⟩) 1 rfl (news_gen _ _ (by simp) (encL (⟨2, d, (r : Int), b⟩)) _) (by simp; try omega) (by have := HT.out.sz; simp; omega) ?_; intro out2 w2 hown2 hgr2)
       have HT2 := Lib.hid (HT.out.app (y := ⟨2, d, (r : Int), b⟩) (by first | exact Grow.alloc (Grow.drew (Below.setCell (Below.setCell HG9.out (Nat.le_refl _) _) (Nat.le_refl _) _)) _ | exact Grow.alloc (Below.setCell (Below.setCell HG9.out (Nat.le_refl _) _) (Nat.le_refl _) _) _ | exact Grow.alloc (Below.setCell (Below.setCell (Grow.drew HG9.out) (Nat.le_refl _) _) (Nat.le_refl _) _) _ | exact ((Grow.refl _).alloc _).alloc _ | exact Grow.alloc (Below.setCell HG3.out (Nat.le_refl _) _) _ | exact Grow.alloc (Below.setCell ((Grow.refl _).alloc _) (Nat.le_refl _) _) _ | exact Grow.alloc (Grow.drew (Below.setCell (Below.setCell ((Grow.refl _).alloc _) (Nat.le_refl _) _) (Nat.le_refl _) _)) _ | exact Grow.alloc (Below.setCell (Below.setCell ((Grow.refl _).alloc _) (Nat.le_refl _) _) (Nat.le_refl _) _) _ | exact (((Grow.refl _).alloc _).drew).alloc _) hown2 hgr2)
       clear hown2 hgr2
       go_roundw
       case rel => exact ⟨r + 1, by omega, by go_num, by rw [snoc_range _ _ r]; exact HT2.out⟩
       case measure => simp [intOf]; omega
      ·have hr4 : r = 4 := by omega
       subst hr4
       go_wp2_with fail
       go_roundw
       case rel => exact ⟨_, .inr (.inr ( ⟨by first | rfl | go_num, rfl⟩)), HT.out⟩
       case measure => simp [intOf]
    ·obtain ⟨e0, e1, e2, e3⟩ := box4 HT.out.bx
     have hz := lt_of_block HT.out.bx
     go_wp2_with fail
     refine swithin_any _ _ _ _ _ ?_
     rw [show inB 2 3 6 = false from by decide]
     obtain ⟨g, cap, rfl, hg1, hg2, hc1, hc2, hrow⟩ := HT.out.end_ (by simp)
     have HROW := Lib.hid hrow
     clear hrow
     go_wp2_with fail
     refine svalid_any ((([⟨0, 0, 0, 0⟩, ⟨2, d, a, b⟩, ⟨2, d, a, b⟩] : List Ln) ++ ((List.range 4).map fun n : Nat => (⟨2, (n : Int), a, b⟩ : Ln)) ++ ((List.range 4).map fun n : Nat => (⟨2, d, (n : Int), b⟩ : Ln)))) 2 d a b g 11 cap w.heap.size _ (by simp) HROW.out hg2 (by omega) (by simpa using hc1) hc2 (by decide) _ ?_
     intro w3 hb3 hg3 hr3
     have hle : (validL ((([⟨0, 0, 0, 0⟩, ⟨2, d, a, b⟩, ⟨2, d, a, b⟩] : List Ln) ++ ((List.range 4).map fun n : Nat => (⟨2, (n : Int), a, b⟩ : Ln)) ++ ((List.range 4).map fun n : Nat => (⟨2, d, (n : Int), b⟩ : Ln)))) (⟨2, d, a, b⟩ : Ln)).length ≤ cap := Nat.le_trans (validL_len _ _) hc1
     have HF := Lib.hid (HR.out _ _ (Below.trans HT.out.g hb3) (hr3.slc hg3 hle hc2))
     clear hb3 hr3
     go_wp2_with fail
     exact HF.out
end Go.Proofs.YtmeejlgnhfkeaaaGreatDoor

namespace Go.Proofs.YtmeejlgnhfkeaaaGreatDoor
open Go.RowKit
theorem news_drew7 (W : World) (n : Nat) (hn : W.heap.size = n) (cs : List Value) (t : TypeId) : ∀ j v, cs[j]? = some v → (W.alloc (.cells cs.toArray t)).drew.cell? ((⟨n, 0, none⟩ : Addr).add j) = some v := news_gen W n hn cs t
set_option maxRecDepth 100000 in
set_option maxHeartbeats 16000000 in
theorem templates7_any (op d a b : Int) (w : World) (hop : op = 7) (hok : vL op d a b = true) (R : Ending → World → Prop)
  (hR : ∀ w' v, Grow w w' → LinesAt w' v (tmpl ⟨op, d, a, b⟩) → R (.returned v) w') :
  Calls Tryz.prog 265 #[.agg #[.int .i64 op, .int .i64 d, .int .i64 a, .int .i64 b]] w R := by
 subst hop
 have hb : -99 ≤ d ∧ d ≤ 99 := by have := ok_cases (l := ⟨7, d, a, b⟩) hok; simp at this; omega
 have q1 : IntKind.i64.wrap (d + -1) = d + -1 := IntWalk.i64_in _ (by omega)
 have q2 : IntKind.i64.wrap (d + 1) = d + 1 := IntWalk.i64_in _ (by omega)
 have hraw : rawT (⟨7, d, a, b⟩ : Ln) = (([⟨0, 0, 0, 0⟩, ⟨7, d + -1, a, b⟩, ⟨7, d + 1, a, b⟩] : List Ln) ++ ((List.range 4).map fun n : Nat => (⟨7, d, (n : Int), b⟩ : Ln)) ++ ((List.range 4).map fun n : Nat => (⟨7, d, a, (n : Int)⟩ : Ln))) ++ [⟨7, d, b, a⟩] := by simp [rawT, byL, fldL, setF, List.range_succ]
 have htm : tmpl (⟨7, d, a, b⟩ : Ln) = validL (rawT (⟨7, d, a, b⟩ : Ln)) (⟨7, d, a, b⟩ : Ln) := by unfold tmpl; rw [if_neg (by simp)]
 rw [hraw] at htm
 rw [htm] at hR
 have HR := Lib.hid hR
 clear hR hraw htm hok
 go_enter Tryz.func265, Tryz.ntmps265
 go_wp2_with fail
 go_loopw [3, 4] (fun out by_ wr => ∃ xs, ((by_ = .int .i64 (-1) ∧ xs = [⟨0, 0, 0, 0⟩]) ∨ (by_ = .int .i64 1 ∧ xs = [⟨0, 0, 0, 0⟩, ⟨7, d + -1, a, b⟩]) ∨ (by_ = .int .i64 3 ∧ xs = [⟨0, 0, 0, 0⟩, ⟨7, d + -1, a, b⟩, ⟨7, d + 1, a, b⟩])) ∧ TI w (⟨7, d, a, b⟩ : Ln) xs out wr) (fun _ by_ _ => (3 - intOf by_).toNat)
 case atStart =>
  refine ⟨_, .inl ⟨rfl, rfl⟩, ((Grow.refl _).alloc _).alloc _, heap_two0 _ _ _, ?_⟩
  have := World.ownsRow_lit (w.alloc (.cells #[.int .i64 7, .int .i64 d, .int .i64 a, .int .i64 b] 57)) (base := w.heap.size + 1) (e := 57) (size := 4) #[.int .i64 0, .int .i64 0, .int .i64 0, .int .i64 0] 1 (by simp) (by simp [maxLen]) rfl
  rw [World.size_alloc] at this
  exact this
 case round =>
  obtain ⟨xs, hc, ht⟩ := hrel
  have HT := Lib.hid ht
  obtain ⟨e0, e1, e2, e3⟩ := box4 ht.bx
  have hz := lt_of_block ht.bx
  clear ht
  rcases hc with ⟨rfl, rfl⟩ | ⟨rfl, rfl⟩ | ⟨rfl, rfl⟩
  ·skip
   go_wp2_with (at_builtin; refine wpList_app _ rfl (.tmp 38) (.tmp 40) 22 rfl (w.heap.size + 1) 57 Tryz.underlying22 info_ln rfl (by decide) (by decide) encL encL_len encL_one _ ([⟨0, 0, 0, 0⟩]) rfl (HT.out.grow (by first | exact Grow.alloc (Grow.drew (Below.setCell (Below.setCell HG9.out (Nat.le_refl _) _) (Nat.le_refl _) _)) _ | exact Grow.alloc (Below.setCell (Below.setCell HG9.out (Nat.le_refl _) _) (Nat.le_refl _) _) _ | exact Grow.alloc (Below.setCell (Below.setCell (Grow.drew HG9.out) (Nat.le_refl _) _) (Nat.le_refl _) _) _ | exact ((Grow.refl _).alloc _).alloc _ | exact Grow.alloc (Below.setCell HG3.out (Nat.le_refl _) _) _ | exact Grow.alloc (Below.setCell ((Grow.refl _).alloc _) (Nat.le_refl _) _) _ | exact Grow.alloc (Grow.drew (Below.setCell (Below.setCell ((Grow.refl _).alloc _) (Nat.le_refl _) _) (Nat.le_refl _) _)) _ | exact Grow.alloc (Below.setCell (Below.setCell ((Grow.refl _).alloc _) (Nat.le_refl _) _) (Nat.le_refl _) _) _ | exact (((Grow.refl _).alloc _).drew).alloc _)).ow _ (⟨7, d + -1, a, b⟩) 1 rfl (news_gen _ _ (by simp) (encL (⟨7, d + -1, a, b⟩)) _) (by simp; try omega) (by have := HT.out.sz; simp; omega) ?_; intro out2 w2 hown2 hgr2)
   have HT2 := Lib.hid (HT.out.app (y := ⟨7, d + -1, a, b⟩) (by first | exact Grow.alloc (Grow.drew (Below.setCell (Below.setCell HG9.out (Nat.le_refl _) _) (Nat.le_refl _) _)) _ | exact Grow.alloc (Below.setCell (Below.setCell HG9.out (Nat.le_refl _) _) (Nat.le_refl _) _) _ | exact Grow.alloc (Below.setCell (Below.setCell (Grow.drew HG9.out) (Nat.le_refl _) _) (Nat.le_refl _) _) _ | exact ((Grow.refl _).alloc _).alloc _ | exact Grow.alloc (Below.setCell HG3.out (Nat.le_refl _) _) _ | exact Grow.alloc (Below.setCell ((Grow.refl _).alloc _) (Nat.le_refl _) _) _ | exact Grow.alloc (Grow.drew (Below.setCell (Below.setCell ((Grow.refl _).alloc _) (Nat.le_refl _) _) (Nat.le_refl _) _)) _ | exact Grow.alloc (Below.setCell (Below.setCell ((Grow.refl _).alloc _) (Nat.le_refl _) _) (Nat.le_refl _) _) _ | exact (((Grow.refl _).alloc _).drew).alloc _) hown2 hgr2)
   clear hown2 hgr2
   go_roundw
   case rel => exact ⟨_, .inr (.inl ⟨by first | rfl | go_num, rfl⟩), HT2.out⟩
   case measure => simp [intOf]; done
  ·skip
   go_wp2_with (at_builtin; refine wpList_app _ rfl (.tmp 38) (.tmp 40) 22 rfl (w.heap.size + 1) 57 Tryz.underlying22 info_ln rfl (by decide) (by decide) encL encL_len encL_one _ ([⟨0, 0, 0, 0⟩, ⟨7, d + -1, a, b⟩]) rfl (HT.out.grow (by first | exact Grow.alloc (Grow.drew (Below.setCell (Below.setCell HG9.out (Nat.le_refl _) _) (Nat.le_refl _) _)) _ | exact Grow.alloc (Below.setCell (Below.setCell HG9.out (Nat.le_refl _) _) (Nat.le_refl _) _) _ | exact Grow.alloc (Below.setCell (Below.setCell (Grow.drew HG9.out) (Nat.le_refl _) _) (Nat.le_refl _) _) _ | exact ((Grow.refl _).alloc _).alloc _ | exact Grow.alloc (Below.setCell HG3.out (Nat.le_refl _) _) _ | exact Grow.alloc (Below.setCell ((Grow.refl _).alloc _) (Nat.le_refl _) _) _ | exact Grow.alloc (Grow.drew (Below.setCell (Below.setCell ((Grow.refl _).alloc _) (Nat.le_refl _) _) (Nat.le_refl _) _)) _ | exact Grow.alloc (Below.setCell (Below.setCell ((Grow.refl _).alloc _) (Nat.le_refl _) _) (Nat.le_refl _) _) _ | exact (((Grow.refl _).alloc _).drew).alloc _)).ow _ (⟨7, d + 1, a, b⟩) 1 rfl (news_gen _ _ (by simp) (encL (⟨7, d + 1, a, b⟩)) _) (by simp; try omega) (by have := HT.out.sz; simp; omega) ?_; intro out2 w2 hown2 hgr2)
   have HT2 := Lib.hid (HT.out.app (y := ⟨7, d + 1, a, b⟩) (by first | exact Grow.alloc (Grow.drew (Below.setCell (Below.setCell HG9.out (Nat.le_refl _) _) (Nat.le_refl _) _)) _ | exact Grow.alloc (Below.setCell (Below.setCell HG9.out (Nat.le_refl _) _) (Nat.le_refl _) _) _ | exact Grow.alloc (Below.setCell (Below.setCell (Grow.drew HG9.out) (Nat.le_refl _) _) (Nat.le_refl _) _) _ | exact ((Grow.refl _).alloc _).alloc _ | exact Grow.alloc (Below.setCell HG3.out (Nat.le_refl _) _) _ | exact Grow.alloc (Below.setCell ((Grow.refl _).alloc _) (Nat.le_refl _) _) _ | exact Grow.alloc (Grow.drew (Below.setCell (Below.setCell ((Grow.refl _).alloc _) (Nat.le_refl _) _) (Nat.le_refl _) _)) _ | exact Grow.alloc (Below.setCell (Below.setCell ((Grow.refl _).alloc _) (Nat.le_refl _) _) (Nat.le_refl _) _) _ | exact (((Grow.refl _).alloc _).drew).alloc _) hown2 hgr2)
   clear hown2 hgr2
   go_roundw
   case rel => exact ⟨_, .inr (.inr ⟨by first | rfl | go_num, rfl⟩), HT2.out⟩
   case measure => simp [intOf]; done
  ·go_wp2_with fail
   refine fields7_any 7 d a b w.heap.size _ rfl HT.out.bx _ ?_
   intro w1 hg1 _
   have HTF := Lib.hid (HT.out.grow hg1)
   clear hg1 HT e0 e1 e2 e3 hz
   go_wp2_with fail
   go_loopw [3, 44] (fun out k wr => ∃ xs, ((k = .int .i64 0 ∧ xs = (([⟨0, 0, 0, 0⟩, ⟨7, d + -1, a, b⟩, ⟨7, d + 1, a, b⟩] : List Ln))) ∨ (k = .int .i64 1 ∧ xs = (([⟨0, 0, 0, 0⟩, ⟨7, d + -1, a, b⟩, ⟨7, d + 1, a, b⟩] : List Ln) ++ ((List.range 4).map fun n : Nat => (⟨7, d, (n : Int), b⟩ : Ln)))) ∨ (k = .int .i64 2 ∧ xs = (([⟨0, 0, 0, 0⟩, ⟨7, d + -1, a, b⟩, ⟨7, d + 1, a, b⟩] : List Ln) ++ ((List.range 4).map fun n : Nat => (⟨7, d, (n : Int), b⟩ : Ln)) ++ ((List.range 4).map fun n : Nat => (⟨7, d, a, (n : Int)⟩ : Ln))))) ∧ TI w (⟨7, d, a, b⟩ : Ln) xs out wr) (fun _ k _ => (2 - intOf k).toNat)
   case atStart => exact ⟨_, .inl ⟨rfl, rfl⟩, HTF.out⟩
   case round =>
    obtain ⟨xs, hc, ht⟩ := hrel
    have HT := Lib.hid ht
    clear ht HTF
    rcases hc with ⟨rfl, rfl⟩ | ⟨rfl, rfl⟩ | ⟨rfl, rfl⟩
    ·go_wp2_with fail
     go_loopw [3, 47] (fun out i wr => ∃ r : Nat, r ≤ 4 ∧ i = .int .i64 r ∧ TI w (⟨7, d, a, b⟩ : Ln) ((([⟨0, 0, 0, 0⟩, ⟨7, d + -1, a, b⟩, ⟨7, d + 1, a, b⟩] : List Ln)) ++ (List.range r).map (fun n : Nat => (⟨7, d, (n : Int), b⟩ : Ln))) out wr) (fun _ i _ => (4 - intOf i).toNat)
     case atStart => exact ⟨0, by omega, rfl, by rw [List.range_zero, List.map_nil, List.append_nil]; exact HT.out⟩
     case round =>
      obtain ⟨r, hr, rfl, ht⟩ := hrel
      clear HT
      have HT := Lib.hid ht
      obtain ⟨e0, e1, e2, e3⟩ := box4 ht.bx
      have hz := lt_of_block ht.bx
      clear ht
      by_cases hlt : r < 4
      ·have hlt2 : (r : Int) < 4 := by omega
       go_wp2_with fail
       refine fields7_any 7 d a b wr.heap.size _ rfl (heap_alloc_new _ _) _ ?_
       intro w3 hg3 hp3
       rw [World.size_alloc] at hp3 ⊢
       have hm3 := hg3.blk (heap_alloc_new wr (.cells #[.int .i64 7, .int .i64 d, .int .i64 a, .int .i64 b] 57))
       have HG3 := Lib.hid (((Grow.refl wr).alloc _).trans hg3)
       obtain ⟨f0, f1, f2, f3⟩ := box4 hm3
       have p0 := cellOf hp3 0 rfl
       have p1 := cellOf hp3 1 rfl
       have z3 := frz hm3 2
       have hzm := lt_of_block hm3
       have hzp := lt_of_block hp3
       clear hg3 hp3 hm3 e0 e1 e2 e3
       go_wp2_with (at_builtin; refine wpList_app _ rfl (.tmp 57) (.tmp 59) 22 rfl (w.heap.size + 1) 57 Tryz.underlying22 info_ln rfl (by decide) (by decide) encL encL_len encL_one _ ((([⟨0, 0, 0, 0⟩, ⟨7, d + -1, a, b⟩, ⟨7, d + 1, a, b⟩] : List Ln)) ++ (List.range r).map (fun n : Nat => (⟨7, d, (n : Int), b⟩ : Ln))) rfl (HT.out.grow (by first | exact Grow.alloc (Grow.drew (Below.setCell (Below.setCell HG9.out (Nat.le_refl _) _) (Nat.le_refl _) _)) _ | exact Grow.alloc (Below.setCell (Below.setCell HG9.out (Nat.le_refl _) _) (Nat.le_refl _) _) _ | exact Grow.alloc (Below.setCell (Below.setCell (Grow.drew HG9.out) (Nat.le_refl _) _) (Nat.le_refl _) _) _ | exact ((Grow.refl _).alloc _).alloc _ | exact Grow.alloc (Below.setCell HG3.out (Nat.le_refl _) _) _ | exact Grow.alloc (Below.setCell ((Grow.refl _).alloc _) (Nat.le_refl _) _) _ | exact Grow.alloc (Grow.drew (Below.setCell (Below.setCell ((Grow.refl _).alloc _) (Nat.le_refl _) _) (Nat.le_refl _) _)) _ | exact Grow.alloc (Below.setCell (Below.setCell ((Grow.refl _).alloc _) (Nat.le_refl _) _) (Nat.le_refl _) _) _ | exact (((Grow.refl _).alloc _).drew).alloc _)).ow _ (⟨7, d, (r : Int), b⟩) 1 rfl (news_gen _ _ (by simp) (encL (⟨7, d, (r : Int), b⟩)) _) (by simp; try omega) (by have := HT.out.sz; simp; omega) ?_; intro out2 w2 hown2 hgr2)
       have HT2 := Lib.hid (HT.out.app (y := ⟨7, d, (r : Int), b⟩) (by first | exact Grow.alloc (Grow.drew (Below.setCell (Below.setCell HG9.out (Nat.le_refl _) _) (Nat.le_refl _) _)) _ | exact Grow.alloc (Below.setCell (Below.setCell HG9.out (Nat.le_refl _) _) (Nat.le_refl _) _) _ | exact Grow.alloc (Below.setCell (Below.setCell (Grow.drew HG9.out) (Nat.le_refl _) _) (Nat.le_refl _) _) _ | exact ((Grow.refl _).alloc _).alloc _ | exact Grow.alloc (Below.setCell HG3.out (Nat.le_refl _) _) _ | exact Grow.alloc (Below.setCell ((Grow.refl _).alloc _) (Nat.le_refl _) _) _ | exact Grow.alloc (Grow.drew (Below.setCell (Below.setCell ((Grow.refl _).alloc _) (Nat.le_refl _) _) (Nat.le_refl _) _)) _ | exact Grow.alloc (Below.setCell (Below.setCell ((Grow.refl _).alloc _) (Nat.le_refl _) _) (Nat.le_refl _) _) _ | exact (((Grow.refl _).alloc _).drew).alloc _) hown2 hgr2)
       clear hown2 hgr2
       go_roundw
       case rel => exact ⟨r + 1, by omega, by go_num, by rw [snoc_range _ _ r]; exact HT2.out⟩
       case measure => simp [intOf]; omega
      ·have hr4 : r = 4 := by omega
       subst hr4
       go_wp2_with fail
       go_roundw
       case rel => exact ⟨_, .inr (.inl ⟨by first | rfl | go_num, rfl⟩), HT.out⟩
       case measure => simp [intOf]
    ·go_wp2_with fail
     go_loopw [3, 47] (fun out i wr => ∃ r : Nat, r ≤ 4 ∧ i = .int .i64 r ∧ TI w (⟨7, d, a, b⟩ : Ln) ((([⟨0, 0, 0, 0⟩, ⟨7, d + -1, a, b⟩, ⟨7, d + 1, a, b⟩] : List Ln) ++ ((List.range 4).map fun n : Nat => (⟨7, d, (n : Int), b⟩ : Ln))) ++ (List.range r).map (fun n : Nat => (⟨7, d, a, (n : Int)⟩ : Ln))) out wr) (fun _ i _ => (4 - intOf i).toNat)
     case atStart => exact ⟨0, by omega, rfl, by rw [List.range_zero, List.map_nil, List.append_nil]; exact HT.out⟩
     case round =>
      obtain ⟨r, hr, rfl, ht⟩ := hrel
      clear HT
      have HT := Lib.hid ht
      obtain ⟨e0, e1, e2, e3⟩ := box4 ht.bx
      have hz := lt_of_block ht.bx
      clear ht
      by_cases hlt : r < 4
      ·have hlt2 : (r : Int) < 4 := by omega
       go_wp2_with fail
       refine fields7_any 7 d a b wr.heap.size _ rfl (heap_alloc_new _ _) _ ?_
       intro w3 hg3 hp3
       rw [World.size_alloc] at hp3 ⊢
       have hm3 := hg3.blk (heap_alloc_new wr (.cells #[.int .i64 7, .int .i64 d, .int .i64 a, .int .i64 b] 57))
       have HG3 := Lib.hid (((Grow.refl wr).alloc _).trans hg3)
       obtain ⟨f0, f1, f2, f3⟩ := box4 hm3
       have p0 := cellOf hp3 0 rfl
       have p1 := cellOf hp3 1 rfl
       have z3 := frz hm3 3
       have hzm := lt_of_block hm3
       have hzp := lt_of_block hp3
       clear hg3 hp3 hm3 e0 e1 e2 e3
       go_wp2_with (at_builtin; refine wpList_app _ rfl (.tmp 57) (.tmp 59) 22 rfl (w.heap.size + 1) 57 Tryz.underlying22 info_ln rfl (by decide) (by decide) encL encL_len encL_one _ ((([⟨0, 0, 0, 0⟩, ⟨7, d + -1, a, b⟩, ⟨7, d + 1, a, b⟩] : List Ln) ++ ((List.range 4).map fun n : Nat => (⟨7, d, (n : Int), b⟩ : Ln))) ++ (List.range r).map (fun n : Nat => (⟨7, d, a, (n : Int)⟩ : Ln))) rfl (HT.out.grow (by first | exact Grow.alloc (Grow.drew (Below.setCell (Below.setCell HG9.out (Nat.le_refl _) _) (Nat.le_refl _) _)) _ | exact Grow.alloc (Below.setCell (Below.setCell HG9.out (Nat.le_refl _) _) (Nat.le_refl _) _) _ | exact Grow.alloc (Below.setCell (Below.setCell (Grow.drew HG9.out) (Nat.le_refl _) _) (Nat.le_refl _) _) _ | exact ((Grow.refl _).alloc _).alloc _ | exact Grow.alloc (Below.setCell HG3.out (Nat.le_refl _) _) _ | exact Grow.alloc (Below.setCell ((Grow.refl _).alloc _) (Nat.le_refl _) _) _ | exact Grow.alloc (Grow.drew (Below.setCell (Below.setCell ((Grow.refl _).alloc _) (Nat.le_refl _) _) (Nat.le_refl _) _)) _ | exact Grow.alloc (Below.setCell (Below.setCell ((Grow.refl _).alloc _) (Nat.le_refl _) _) (Nat.le_refl _) _) _ | exact (((Grow.refl _).alloc _).drew).alloc _)).ow _ (⟨7, d, a, (r : Int)⟩) 1 rfl (news_gen _ _ (by simp) (encL (⟨7, d, a, (r : Int)⟩)) _) (by simp; try omega) (by have := HT.out.sz; simp; omega) ?_; intro out2 w2 hown2 hgr2)
       have HT2 := Lib.hid (HT.out.app (y := ⟨7, d, a, (r : Int)⟩) (by first | exact Grow.alloc (Grow.drew (Below.setCell (Below.setCell HG9.out (Nat.le_refl _) _) (Nat.le_refl _) _)) _ | exact Grow.alloc (Below.setCell (Below.setCell HG9.out (Nat.le_refl _) _) (Nat.le_refl _) _) _ | exact Grow.alloc (Below.setCell (Below.setCell (Grow.drew HG9.out) (Nat.le_refl _) _) (Nat.le_refl _) _) _ | exact ((Grow.refl _).alloc _).alloc _ | exact Grow.alloc (Below.setCell HG3.out (Nat.le_refl _) _) _ | exact Grow.alloc (Below.setCell ((Grow.refl _).alloc _) (Nat.le_refl _) _) _ | exact Grow.alloc (Grow.drew (Below.setCell (Below.setCell ((Grow.refl _).alloc _) (Nat.le_refl _) _) (Nat.le_refl _) _)) _ | exact Grow.alloc (Below.setCell (Below.setCell ((Grow.refl _).alloc _) (Nat.le_refl _) _) (Nat.le_refl _) _) _ | exact (((Grow.refl _).alloc _).drew).alloc _) hown2 hgr2)
       clear hown2 hgr2
       go_roundw
       case rel => exact ⟨r + 1, by omega, by go_num, by rw [snoc_range _ _ r]; exact HT2.out⟩
       case measure => simp [intOf]; omega
      ·have hr4 : r = 4 := by omega
       subst hr4
       go_wp2_with fail
       go_roundw
       case rel => exact ⟨_, .inr (.inr ( ⟨by first | rfl | go_num, rfl⟩)), HT.out⟩
       case measure => simp [intOf]
    ·obtain ⟨e0, e1, e2, e3⟩ := box4 HT.out.bx
     have hz := lt_of_block HT.out.bx
     go_wp2_with fail
     have hb9 := heap_alloc_new wr (.cells #[.int .i64 7, .int .i64 d, .int .i64 a, .int .i64 b] 57)
     have hg9 : Grow wr (wr.alloc (.cells #[.int .i64 7, .int .i64 d, .int .i64 a, .int .i64 b] 57)) := (Grow.refl wr).alloc _
     have hl9 := hg9.blk HT.out.bx
     clear e0 e1 e2 e3 hz
     generalize wr.alloc (.cells #[.int .i64 7, .int .i64 d, .int .i64 a, .int .i64 b] 57) = W at hb9 hg9 hl9 ⊢
     obtain ⟨e0, e1, e2, e3⟩ := box4 hl9
     obtain ⟨m0, m1, m2, m3⟩ := box4 hb9
     have z2 := frz hb9 2
     have z3 := frz hb9 3
     have hz := lt_of_block hl9
     have hz9 := lt_of_block hb9
     have HG9 := Lib.hid hg9
     have hne9 : wr.heap.size ≠ w.heap.size := by have := HT.out.sz; omega
     have hwl9 : w.heap.size < wr.heap.size := by have := HT.out.sz; omega
     have y2 : (W.setCell ⟨wr.heap.size, 2, none⟩ (.int .i64 b)).drew.cell? ⟨w.heap.size, 2, none⟩ = some (.int .i64 a) := (Below.cell (p := ⟨w.heap.size, 2, none⟩) (Below.setCell (Below.refl wr.heap.size W) (Nat.le_refl _) _) hwl9).trans e2
     have y3 : (W.setCell ⟨wr.heap.size, 2, none⟩ (.int .i64 b)).drew.frozen? ⟨wr.heap.size, 3, none⟩ = false := (World.frozen?_setCell _ _ _ _).trans z3
     clear hb9 hg9 hl9
     go_region
     go_wp2_with (at_builtin; refine wpList_app _ rfl (.tmp 73) (.tmp 75) 22 rfl (w.heap.size + 1) 57 Tryz.underlying22 info_ln rfl (by decide) (by decide) encL encL_len encL_one _ ((([⟨0, 0, 0, 0⟩, ⟨7, d + -1, a, b⟩, ⟨7, d + 1, a, b⟩] : List Ln) ++ ((List.range 4).map fun n : Nat => (⟨7, d, (n : Int), b⟩ : Ln)) ++ ((List.range 4).map fun n : Nat => (⟨7, d, a, (n : Int)⟩ : Ln)))) rfl (HT.out.grow (Grow.drew (Grow.alloc (Below.setCell (Below.setCell HG9.out (Nat.le_refl _) _) (Nat.le_refl _) _) _))).ow _ (⟨7, d, b, a⟩) 1 rfl (news_drew7 _ _ (by simp) (encL (⟨7, d, b, a⟩)) _) (by simp; try omega) (by have := HT.out.sz; simp; omega) ?_; intro out2 w2 hown2 hgr2; have HT2 := Lib.hid (HT.out.app (y := ⟨7, d, b, a⟩) (Grow.drew (Grow.alloc (Below.setCell (Below.setCell HG9.out (Nat.le_refl _) _) (Nat.le_refl _) _) _)) hown2 hgr2); clear hown2 hgr2; obtain ⟨g0, g1, g2, g3⟩ := box4 HT2.out.bx; have hzg := lt_of_block HT2.out.bx)
     clear HT e0 e1 e2 e3 hz m0 m1 m2 m3 z2 z3 hz9 HG9 hne9 hwl9 y2 y3
     have HT := HT2
     clear HT2
     refine swithin_any _ _ _ _ _ ?_
     rw [show inB 7 3 6 = false from by decide]
     obtain ⟨g, cap, rfl, hg1, hg2, hc1, hc2, hrow⟩ := HT.out.end_ (by simp)
     have HROW := Lib.hid hrow
     clear hrow
     go_wp2_with fail
     refine svalid_any ((([⟨0, 0, 0, 0⟩, ⟨7, d + -1, a, b⟩, ⟨7, d + 1, a, b⟩] : List Ln) ++ ((List.range 4).map fun n : Nat => (⟨7, d, (n : Int), b⟩ : Ln)) ++ ((List.range 4).map fun n : Nat => (⟨7, d, a, (n : Int)⟩ : Ln))) ++ [⟨7, d, b, a⟩]) 7 d a b g 12 cap w.heap.size _ (by simp) HROW.out hg2 (by omega) (by simpa using hc1) hc2 (by decide) _ ?_
     intro w3 hb3 hg3 hr3
     have hle : (validL ((([⟨0, 0, 0, 0⟩, ⟨7, d + -1, a, b⟩, ⟨7, d + 1, a, b⟩] : List Ln) ++ ((List.range 4).map fun n : Nat => (⟨7, d, (n : Int), b⟩ : Ln)) ++ ((List.range 4).map fun n : Nat => (⟨7, d, a, (n : Int)⟩ : Ln))) ++ [⟨7, d, b, a⟩]) (⟨7, d, a, b⟩ : Ln)).length ≤ cap := Nat.le_trans (validL_len _ _) hc1
     have HF := Lib.hid (HR.out _ _ (Below.trans HT.out.g hb3) (hr3.slc hg3 hle hc2))
     clear hb3 hr3
     go_wp2_with fail
     exact HF.out
end Go.Proofs.YtmeejlgnhfkeaaaGreatDoor

namespace Go.Proofs.YtmeejlgnhfkeaaaGreatDoor
open Go.RowKit
theorem news_drewG (W : World) (n : Nat) (hn : W.heap.size = n) (cs : List Value) (t : TypeId) : ∀ j v, cs[j]? = some v → (W.alloc (.cells cs.toArray t)).drew.cell? ((⟨n, 0, none⟩ : Addr).add j) = some v := news_gen W n hn cs t
set_option maxRecDepth 100000 in
set_option maxHeartbeats 16000000 in
theorem templatesG_any (op d a b : Int) (w : World) (hop : 3 ≤ op ∧ op ≤ 6) (hok : vL op d a b = true) (R : Ending → World → Prop)
  (hR : ∀ w' v, Grow w w' → LinesAt w' v (tmpl ⟨op, d, a, b⟩) → R (.returned v) w') :
  Calls Tryz.prog 265 #[.agg #[.int .i64 op, .int .i64 d, .int .i64 a, .int .i64 b]] w R := by
 have _h := hok
 obtain ⟨h3, h6⟩ := hop
 have n1 : ¬ op = 1 := by omega
 have n2 : ¬ op = 2 := by omega
 have n7 : ¬ op = 7 := by omega
 have n0 : ¬ op = 0 := by omega
 have t1 : (op == 1) = false := by simp; omega
 have t2 : (op == 2) = false := by simp; omega
 have t7 : (op == 7) = false := by simp; omega
 have t0 : (op == 0) = false := by simp; omega
 have t3 : op ≥ 3 := h3
 have hraw : rawT (⟨op, d, a, b⟩ : Ln) = (([⟨0, 0, 0, 0⟩, ⟨op, d, a, b⟩, ⟨op, d, a, b⟩] : List Ln) ++ ((List.range 4).map fun n : Nat => (⟨op, (n : Int), a, b⟩ : Ln)) ++ ((List.range 4).map fun n : Nat => (⟨op, d, (n : Int), b⟩ : Ln)) ++ ((List.range 4).map fun n : Nat => (⟨op, d, a, (n : Int)⟩ : Ln))) ++ [⟨op, d, b, a⟩] ++ ((List.range 4).map fun n : Nat => (⟨3 + (n : Int), d, a, b⟩ : Ln)) := by simp [rawT, byL, fldL, setF, List.range_succ, n1, n2, n7, n0, h3, h6]
 have htm : tmpl (⟨op, d, a, b⟩ : Ln) = validL (rawT (⟨op, d, a, b⟩ : Ln)) (⟨op, d, a, b⟩ : Ln) := by unfold tmpl; rw [if_neg (by simp; omega)]
 rw [hraw] at htm
 rw [htm] at hR
 have HR := Lib.hid hR
 clear hR hraw htm hok
 go_enter Tryz.func265, Tryz.ntmps265
 go_wp2_with fail
 go_loopw [3, 4] (fun out by_ wr => ∃ xs, ((by_ = .int .i64 (-1) ∧ xs = [⟨0, 0, 0, 0⟩]) ∨ (by_ = .int .i64 1 ∧ xs = [⟨0, 0, 0, 0⟩, ⟨op, d, a, b⟩]) ∨ (by_ = .int .i64 3 ∧ xs = [⟨0, 0, 0, 0⟩, ⟨op, d, a, b⟩, ⟨op, d, a, b⟩])) ∧ TI w (⟨op, d, a, b⟩ : Ln) xs out wr) (fun _ by_ _ => (3 - intOf by_).toNat)
 case atStart =>
  refine ⟨_, .inl ⟨rfl, rfl⟩, ((Grow.refl _).alloc _).alloc _, heap_two0 _ _ _, ?_⟩
  have := World.ownsRow_lit (w.alloc (.cells #[.int .i64 op, .int .i64 d, .int .i64 a, .int .i64 b] 57)) (base := w.heap.size + 1) (e := 57) (size := 4) #[.int .i64 0, .int .i64 0, .int .i64 0, .int .i64 0] 1 (by simp) (by simp [maxLen]) rfl
  rw [World.size_alloc] at this
  exact this
 case round =>
  obtain ⟨xs, hc, ht⟩ := hrel
  have HT := Lib.hid ht
  obtain ⟨e0, e1, e2, e3⟩ := box4 ht.bx
  have hz := lt_of_block ht.bx
  clear ht
  rcases hc with ⟨rfl, rfl⟩ | ⟨rfl, rfl⟩ | ⟨rfl, rfl⟩
  ·skip
   go_wp2_with (at_builtin; refine wpList_app _ rfl (.tmp 38) (.tmp 40) 22 rfl (w.heap.size + 1) 57 Tryz.underlying22 info_ln rfl (by decide) (by decide) encL encL_len encL_one _ ([⟨0, 0, 0, 0⟩]) rfl (HT.out.grow (by first | exact Grow.alloc (Grow.drew (Below.setCell (Below.setCell HG9.out (Nat.le_refl _) _) (Nat.le_refl _) _)) _ | exact Grow.alloc (Below.setCell (Below.setCell HG9.out (Nat.le_refl _) _) (Nat.le_refl _) _) _ | exact Grow.alloc (Below.setCell (Below.setCell (Grow.drew HG9.out) (Nat.le_refl _) _) (Nat.le_refl _) _) _ | exact ((Grow.refl _).alloc _).alloc _ | exact Grow.alloc (Below.setCell HG3.out (Nat.le_refl _) _) _ | exact Grow.alloc (Below.setCell ((Grow.refl _).alloc _) (Nat.le_refl _) _) _ | exact Grow.alloc (Grow.drew (Below.setCell (Below.setCell ((Grow.refl _).alloc _) (Nat.le_refl _) _) (Nat.le_refl _) _)) _ | exact Grow.alloc (Below.setCell (Below.setCell ((Grow.refl _).alloc _) (Nat.le_refl _) _) (Nat.le_refl _) _) _ | exact (((Grow.refl _).alloc _).drew).alloc _)).ow _ (⟨op, d, a, b⟩) 1 rfl (news_gen _ _ (by simp) (encL (⟨op, d, a, b⟩)) _) (by simp; try omega) (by have := HT.out.sz; simp; omega) ?_; intro out2 w2 hown2 hgr2)
   have HT2 := Lib.hid (HT.out.app (y := ⟨op, d, a, b⟩) (by first | exact Grow.alloc (Grow.drew (Below.setCell (Below.setCell HG9.out (Nat.le_refl _) _) (Nat.le_refl _) _)) _ | exact Grow.alloc (Below.setCell (Below.setCell HG9.out (Nat.le_refl _) _) (Nat.le_refl _) _) _ | exact Grow.alloc (Below.setCell (Below.setCell (Grow.drew HG9.out) (Nat.le_refl _) _) (Nat.le_refl _) _) _ | exact ((Grow.refl _).alloc _).alloc _ | exact Grow.alloc (Below.setCell HG3.out (Nat.le_refl _) _) _ | exact Grow.alloc (Below.setCell ((Grow.refl _).alloc _) (Nat.le_refl _) _) _ | exact Grow.alloc (Grow.drew (Below.setCell (Below.setCell ((Grow.refl _).alloc _) (Nat.le_refl _) _) (Nat.le_refl _) _)) _ | exact Grow.alloc (Below.setCell (Below.setCell ((Grow.refl _).alloc _) (Nat.le_refl _) _) (Nat.le_refl _) _) _ | exact (((Grow.refl _).alloc _).drew).alloc _) hown2 hgr2)
   clear hown2 hgr2
   go_roundw
   case rel => exact ⟨_, .inr (.inl ⟨by first | rfl | go_num, rfl⟩), HT2.out⟩
   case measure => simp [intOf]; done
  ·skip
   go_wp2_with (at_builtin; refine wpList_app _ rfl (.tmp 38) (.tmp 40) 22 rfl (w.heap.size + 1) 57 Tryz.underlying22 info_ln rfl (by decide) (by decide) encL encL_len encL_one _ ([⟨0, 0, 0, 0⟩, ⟨op, d, a, b⟩]) rfl (HT.out.grow (by first | exact Grow.alloc (Grow.drew (Below.setCell (Below.setCell HG9.out (Nat.le_refl _) _) (Nat.le_refl _) _)) _ | exact Grow.alloc (Below.setCell (Below.setCell HG9.out (Nat.le_refl _) _) (Nat.le_refl _) _) _ | exact Grow.alloc (Below.setCell (Below.setCell (Grow.drew HG9.out) (Nat.le_refl _) _) (Nat.le_refl _) _) _ | exact ((Grow.refl _).alloc _).alloc _ | exact Grow.alloc (Below.setCell HG3.out (Nat.le_refl _) _) _ | exact Grow.alloc (Below.setCell ((Grow.refl _).alloc _) (Nat.le_refl _) _) _ | exact Grow.alloc (Grow.drew (Below.setCell (Below.setCell ((Grow.refl _).alloc _) (Nat.le_refl _) _) (Nat.le_refl _) _)) _ | exact Grow.alloc (Below.setCell (Below.setCell ((Grow.refl _).alloc _) (Nat.le_refl _) _) (Nat.le_refl _) _) _ | exact (((Grow.refl _).alloc _).drew).alloc _)).ow _ (⟨op, d, a, b⟩) 1 rfl (news_gen _ _ (by simp) (encL (⟨op, d, a, b⟩)) _) (by simp; try omega) (by have := HT.out.sz; simp; omega) ?_; intro out2 w2 hown2 hgr2)
   have HT2 := Lib.hid (HT.out.app (y := ⟨op, d, a, b⟩) (by first | exact Grow.alloc (Grow.drew (Below.setCell (Below.setCell HG9.out (Nat.le_refl _) _) (Nat.le_refl _) _)) _ | exact Grow.alloc (Below.setCell (Below.setCell HG9.out (Nat.le_refl _) _) (Nat.le_refl _) _) _ | exact Grow.alloc (Below.setCell (Below.setCell (Grow.drew HG9.out) (Nat.le_refl _) _) (Nat.le_refl _) _) _ | exact ((Grow.refl _).alloc _).alloc _ | exact Grow.alloc (Below.setCell HG3.out (Nat.le_refl _) _) _ | exact Grow.alloc (Below.setCell ((Grow.refl _).alloc _) (Nat.le_refl _) _) _ | exact Grow.alloc (Grow.drew (Below.setCell (Below.setCell ((Grow.refl _).alloc _) (Nat.le_refl _) _) (Nat.le_refl _) _)) _ | exact Grow.alloc (Below.setCell (Below.setCell ((Grow.refl _).alloc _) (Nat.le_refl _) _) (Nat.le_refl _) _) _ | exact (((Grow.refl _).alloc _).drew).alloc _) hown2 hgr2)
   clear hown2 hgr2
   go_roundw
   case rel => exact ⟨_, .inr (.inr ⟨by first | rfl | go_num, rfl⟩), HT2.out⟩
   case measure => simp [intOf]; done
  ·go_wp2_with fail
   refine fieldsG_any op d a b w.heap.size _ ⟨h3, h6⟩ HT.out.bx _ ?_
   intro w1 hg1 _
   have HTF := Lib.hid (HT.out.grow hg1)
   clear hg1 HT e0 e1 e2 e3 hz
   go_wp2_with fail
   go_loopw [3, 44] (fun out k wr => ∃ xs, ((k = .int .i64 0 ∧ xs = (([⟨0, 0, 0, 0⟩, ⟨op, d, a, b⟩, ⟨op, d, a, b⟩] : List Ln))) ∨ (k = .int .i64 1 ∧ xs = (([⟨0, 0, 0, 0⟩, ⟨op, d, a, b⟩, ⟨op, d, a, b⟩] : List Ln) ++ ((List.range 4).map fun n : Nat => (⟨op, (n : Int), a, b⟩ : Ln)))) ∨ (k = .int .i64 2 ∧ xs = (([⟨0, 0, 0, 0⟩, ⟨op, d, a, b⟩, ⟨op, d, a, b⟩] : List Ln) ++ ((List.range 4).map fun n : Nat => (⟨op, (n : Int), a, b⟩ : Ln)) ++ ((List.range 4).map fun n : Nat => (⟨op, d, (n : Int), b⟩ : Ln)))) ∨ (k = .int .i64 3 ∧ xs = (([⟨0, 0, 0, 0⟩, ⟨op, d, a, b⟩, ⟨op, d, a, b⟩] : List Ln) ++ ((List.range 4).map fun n : Nat => (⟨op, (n : Int), a, b⟩ : Ln)) ++ ((List.range 4).map fun n : Nat => (⟨op, d, (n : Int), b⟩ : Ln)) ++ ((List.range 4).map fun n : Nat => (⟨op, d, a, (n : Int)⟩ : Ln))))) ∧ TI w (⟨op, d, a, b⟩ : Ln) xs out wr) (fun _ k _ => (3 - intOf k).toNat)
   case atStart => exact ⟨_, .inl ⟨rfl, rfl⟩, HTF.out⟩
   case round =>
    obtain ⟨xs, hc, ht⟩ := hrel
    have HT := Lib.hid ht
    clear ht HTF
    rcases hc with ⟨rfl, rfl⟩ | ⟨rfl, rfl⟩ | ⟨rfl, rfl⟩ | ⟨rfl, rfl⟩
    ·go_wp2_with fail
     go_loopw [3, 47] (fun out i wr => ∃ r : Nat, r ≤ 4 ∧ i = .int .i64 r ∧ TI w (⟨op, d, a, b⟩ : Ln) ((([⟨0, 0, 0, 0⟩, ⟨op, d, a, b⟩, ⟨op, d, a, b⟩] : List Ln)) ++ (List.range r).map (fun n : Nat => (⟨op, (n : Int), a, b⟩ : Ln))) out wr) (fun _ i _ => (4 - intOf i).toNat)
     case atStart => exact ⟨0, by omega, rfl, by rw [List.range_zero, List.map_nil, List.append_nil]; exact HT.out⟩
     case round =>
      obtain ⟨r, hr, rfl, ht⟩ := hrel
      clear HT
      have HT := Lib.hid ht
      obtain ⟨e0, e1, e2, e3⟩ := box4 ht.bx
      have hz := lt_of_block ht.bx
      clear ht
      by_cases hlt : r < 4
      ·have hlt2 : (r : Int) < 4 := by omega
       go_wp2_with fail
       refine fieldsG_any op d a b wr.heap.size _ ⟨h3, h6⟩ (heap_alloc_new _ _) _ ?_
       intro w3 hg3 hp3
       rw [World.size_alloc] at hp3 ⊢
       have hm3 := hg3.blk (heap_alloc_new wr (.cells #[.int .i64 op, .int .i64 d, .int .i64 a, .int .i64 b] 57))
       have HG3 := Lib.hid (((Grow.refl wr).alloc _).trans hg3)
       obtain ⟨f0, f1, f2, f3⟩ := box4 hm3
       have p0 := cellOf hp3 0 rfl
       have p1 := cellOf hp3 1 rfl
       have p2 := cellOf hp3 2 rfl
       have z3 := frz hm3 1
       have hzm := lt_of_block hm3
       have hzp := lt_of_block hp3
       clear hg3 hp3 hm3 e0 e1 e2 e3
       go_wp2_with (at_builtin; refine wpList_app _ rfl (.tmp 57) (.tmp 59) 22 rfl (w.heap.size + 1) 57 Tryz.underlying22 info_ln rfl (by decide) (by decide) encL encL_len encL_one _ ((([⟨0, 0, 0, 0⟩, ⟨op, d, a, b⟩, ⟨op, d, a, b⟩] : List Ln)) ++ (List.range r).map (fun n : Nat => (⟨op, (n : Int), a, b⟩ : Ln))) rfl (HT.out.grow (by first | exact Grow.alloc (Grow.drew (Below.setCell (Below.setCell HG9.out (Nat.le_refl _) _) (Nat.le_refl _) _)) _ | exact Grow.alloc (Below.setCell (Below.setCell HG9.out (Nat.le_refl _) _) (Nat.le_refl _) _) _ | exact Grow.alloc (Below.setCell (Below.setCell (Grow.drew HG9.out) (Nat.le_refl _) _) (Nat.le_refl _) _) _ | exact ((Grow.refl _).alloc _).alloc _ | exact Grow.alloc (Below.setCell HG3.out (Nat.le_refl _) _) _ | exact Grow.alloc (Below.setCell ((Grow.refl _).alloc _) (Nat.le_refl _) _) _ | exact Grow.alloc (Grow.drew (Below.setCell (Below.setCell ((Grow.refl _).alloc _) (Nat.le_refl _) _) (Nat.le_refl _) _)) _ | exact Grow.alloc (Below.setCell (Below.setCell ((Grow.refl _).alloc _) (Nat.le_refl _) _) (Nat.le_refl _) _) _ | exact (((Grow.refl _).alloc _).drew).alloc _)).ow _ (⟨op, (r : Int), a, b⟩) 1 rfl (news_gen _ _ (by simp) (encL (⟨op, (r : Int), a, b⟩)) _) (by simp; try omega) (by have := HT.out.sz; simp; omega) ?_; intro out2 w2 hown2 hgr2)
       have HT2 := Lib.hid (HT.out.app (y := ⟨op, (r : Int), a, b⟩) (by first | exact Grow.alloc (Grow.drew (Below.setCell (Below.setCell HG9.out (Nat.le_refl _) _) (Nat.le_refl _) _)) _ | exact Grow.alloc (Below.setCell (Below.setCell HG9.out (Nat.le_refl _) _) (Nat.le_refl _) _) _ | exact Grow.alloc (Below.setCell (Below.setCell (Grow.drew HG9.out) (Nat.le_refl _) _) (Nat.le_refl _) _) _ | exact ((Grow.refl _).alloc _).alloc _ | exact Grow.alloc (Below.setCell HG3.out (Nat.le_refl _) _) _ | exact Grow.alloc (Below.setCell ((Grow.refl _).alloc _) (Nat.le_refl _) _) _ | exact Grow.alloc (Grow.drew (Below.setCell (Below.setCell ((Grow.refl _).alloc _) (Nat.le_refl _) _) (Nat.le_refl _) _)) _ | exact Grow.alloc (Below.setCell (Below.setCell ((Grow.refl _).alloc _) (Nat.le_refl _) _) (Nat.le_refl _) _) _ | exact (((Grow.refl _).alloc _).drew).alloc _) hown2 hgr2)
       clear hown2 hgr2
       go_roundw
       case rel => exact ⟨r + 1, by omega, by go_num, by rw [snoc_range _ _ r]; exact HT2.out⟩
       case measure => simp [intOf]; omega
      ·have hr4 : r = 4 := by omega
       subst hr4
       go_wp2_with fail
       go_roundw
       case rel => exact ⟨_, .inr (.inl ⟨by first | rfl | go_num, rfl⟩), HT.out⟩
       case measure => simp [intOf]
    ·go_wp2_with fail
     go_loopw [3, 47] (fun out i wr => ∃ r : Nat, r ≤ 4 ∧ i = .int .i64 r ∧ TI w (⟨op, d, a, b⟩ : Ln) ((([⟨0, 0, 0, 0⟩, ⟨op, d, a, b⟩, ⟨op, d, a, b⟩] : List Ln) ++ ((List.range 4).map fun n : Nat => (⟨op, (n : Int), a, b⟩ : Ln))) ++ (List.range r).map (fun n : Nat => (⟨op, d, (n : Int), b⟩ : Ln))) out wr) (fun _ i _ => (4 - intOf i).toNat)
     case atStart => exact ⟨0, by omega, rfl, by rw [List.range_zero, List.map_nil, List.append_nil]; exact HT.out⟩
     case round =>
      obtain ⟨r, hr, rfl, ht⟩ := hrel
      clear HT
      have HT := Lib.hid ht
      obtain ⟨e0, e1, e2, e3⟩ := box4 ht.bx
      have hz := lt_of_block ht.bx
      clear ht
      by_cases hlt : r < 4
      ·have hlt2 : (r : Int) < 4 := by omega
       go_wp2_with fail
       refine fieldsG_any op d a b wr.heap.size _ ⟨h3, h6⟩ (heap_alloc_new _ _) _ ?_
       intro w3 hg3 hp3
       rw [World.size_alloc] at hp3 ⊢
       have hm3 := hg3.blk (heap_alloc_new wr (.cells #[.int .i64 op, .int .i64 d, .int .i64 a, .int .i64 b] 57))
       have HG3 := Lib.hid (((Grow.refl wr).alloc _).trans hg3)
       obtain ⟨f0, f1, f2, f3⟩ := box4 hm3
       have p0 := cellOf hp3 0 rfl
       have p1 := cellOf hp3 1 rfl
       have p2 := cellOf hp3 2 rfl
       have z3 := frz hm3 2
       have hzm := lt_of_block hm3
       have hzp := lt_of_block hp3
       clear hg3 hp3 hm3 e0 e1 e2 e3
       go_wp2_with (at_builtin; refine wpList_app _ rfl (.tmp 57) (.tmp 59) 22 rfl (w.heap.size + 1) 57 Tryz.underlying22 info_ln rfl (by decide) (by decide) encL encL_len encL_one _ ((([⟨0, 0, 0, 0⟩, ⟨op, d, a, b⟩, ⟨op, d, a, b⟩] : List Ln) ++ ((List.range 4).map fun n : Nat => (⟨op, (n : Int), a, b⟩ : Ln))) ++ (List.range r).map (fun n : Nat => (⟨op, d, (n : Int), b⟩ : Ln))) rfl (HT.out.grow (by first | exact Grow.alloc (Grow.drew (Below.setCell (Below.setCell HG9.out (Nat.le_refl _) _) (Nat.le_refl _) _)) _ | exact Grow.alloc (Below.setCell (Below.setCell HG9.out (Nat.le_refl _) _) (Nat.le_refl _) _) _ | exact Grow.alloc (Below.setCell (Below.setCell (Grow.drew HG9.out) (Nat.le_refl _) _) (Nat.le_refl _) _) _ | exact ((Grow.refl _).alloc _).alloc _ | exact Grow.alloc (Below.setCell HG3.out (Nat.le_refl _) _) _ | exact Grow.alloc (Below.setCell ((Grow.refl _).alloc _) (Nat.le_refl _) _) _ | exact Grow.alloc (Grow.drew (Below.setCell (Below.setCell ((Grow.refl _).alloc _) (Nat.le_refl _) _) (Nat.le_refl _) _)) _ | exact Grow.alloc (Below.setCell (Below.setCell ((Grow.refl _).alloc _) (Nat.le_refl _) _) (Nat.le_refl _) _) _ | exact (((Grow.refl _).alloc _).drew).alloc _)).ow _ (⟨op, d, (r : Int), b⟩) 1 rfl (news_gen _ _ (by simp) (encL (⟨op, d, (r : Int), b⟩)) _) (by simp; try omega) (by have := HT.out.sz; simp; omega) ?_; intro out2 w2 hown2 hgr2)
       have HT2 := Lib.hid (HT.out.app (y := ⟨op, d, (r : Int), b⟩) (by first | exact Grow.alloc (Grow.drew (Below.setCell (Below.setCell HG9.out (Nat.le_refl _) _) (Nat.le_refl _) _)) _ | exact Grow.alloc (Below.setCell (Below.setCell HG9.out (Nat.le_refl _) _) (Nat.le_refl _) _) _ | exact Grow.alloc (Below.setCell (Below.setCell (Grow.drew HG9.out) (Nat.le_refl _) _) (Nat.le_refl _) _) _ | exact ((Grow.refl _).alloc _).alloc _ | exact Grow.alloc (Below.setCell HG3.out (Nat.le_refl _) _) _ | exact Grow.alloc (Below.setCell ((Grow.refl _).alloc _) (Nat.le_refl _) _) _ | exact Grow.alloc (Grow.drew (Below.setCell (Below.setCell ((Grow.refl _).alloc _) (Nat.le_refl _) _) (Nat.le_refl _) _)) _ | exact Grow.alloc (Below.setCell (Below.setCell ((Grow.refl _).alloc _) (Nat.le_refl _) _) (Nat.le_refl _) _) _ | exact (((Grow.refl _).alloc _).drew).alloc _) hown2 hgr2)
       clear hown2 hgr2
       go_roundw
       case rel => exact ⟨r + 1, by omega, by go_num, by rw [snoc_range _ _ r]; exact HT2.out⟩
       case measure => simp [intOf]; omega
      ·have hr4 : r = 4 := by omega
       subst hr4
       go_wp2_with fail
       go_roundw
       case rel => exact ⟨_, .inr (.inr (.inl ⟨by first | rfl | go_num, rfl⟩)), HT.out⟩
       case measure => simp [intOf]
    ·go_wp2_with fail
     go_loopw [3, 47] (fun out i wr => ∃ r : Nat, r ≤ 4 ∧ i = .int .i64 r ∧ TI w (⟨op, d, a, b⟩ : Ln) ((([⟨0, 0, 0, 0⟩, ⟨op, d, a, b⟩, ⟨op, d, a, b⟩] : List Ln) ++ ((List.range 4).map fun n : Nat => (⟨op, (n : Int), a, b⟩ : Ln)) ++ ((List.range 4).map fun n : Nat => (⟨op, d, (n : Int), b⟩ : Ln))) ++ (List.range r).map (fun n : Nat => (⟨op, d, a, (n : Int)⟩ : Ln))) out wr) (fun _ i _ => (4 - intOf i).toNat)
     case atStart => exact ⟨0, by omega, rfl, by rw [List.range_zero, List.map_nil, List.append_nil]; exact HT.out⟩
     case round =>
      obtain ⟨r, hr, rfl, ht⟩ := hrel
      clear HT
      have HT := Lib.hid ht
      obtain ⟨e0, e1, e2, e3⟩ := box4 ht.bx
      have hz := lt_of_block ht.bx
      clear ht
      by_cases hlt : r < 4
      ·have hlt2 : (r : Int) < 4 := by omega
       go_wp2_with fail
       refine fieldsG_any op d a b wr.heap.size _ ⟨h3, h6⟩ (heap_alloc_new _ _) _ ?_
       intro w3 hg3 hp3
       rw [World.size_alloc] at hp3 ⊢
       have hm3 := hg3.blk (heap_alloc_new wr (.cells #[.int .i64 op, .int .i64 d, .int .i64 a, .int .i64 b] 57))
       have HG3 := Lib.hid (((Grow.refl wr).alloc _).trans hg3)
       obtain ⟨f0, f1, f2, f3⟩ := box4 hm3
       have p0 := cellOf hp3 0 rfl
       have p1 := cellOf hp3 1 rfl
       have p2 := cellOf hp3 2 rfl
       have z3 := frz hm3 3
       have hzm := lt_of_block hm3
       have hzp := lt_of_block hp3
       clear hg3 hp3 hm3 e0 e1 e2 e3
       go_wp2_with (at_builtin; refine wpList_app _ rfl (.tmp 57) (.tmp 59) 22 rfl (w.heap.size + 1) 57 Tryz.underlying22 info_ln rfl (by decide) (by decide) encL encL_len encL_one _ ((([⟨0, 0, 0, 0⟩, ⟨op, d, a, b⟩, ⟨op, d, a, b⟩] : List Ln) ++ ((List.range 4).map fun n : Nat => (⟨op, (n : Int), a, b⟩ : Ln)) ++ ((List.range 4).map fun n : Nat => (⟨op, d, (n : Int), b⟩ : Ln))) ++ (List.range r).map (fun n : Nat => (⟨op, d, a, (n : Int)⟩ : Ln))) rfl (HT.out.grow (by first | exact Grow.alloc (Grow.drew (Below.setCell (Below.setCell HG9.out (Nat.le_refl _) _) (Nat.le_refl _) _)) _ | exact Grow.alloc (Below.setCell (Below.setCell HG9.out (Nat.le_refl _) _) (Nat.le_refl _) _) _ | exact Grow.alloc (Below.setCell (Below.setCell (Grow.drew HG9.out) (Nat.le_refl _) _) (Nat.le_refl _) _) _ | exact ((Grow.refl _).alloc _).alloc _ | exact Grow.alloc (Below.setCell HG3.out (Nat.le_refl _) _) _ | exact Grow.alloc (Below.setCell ((Grow.refl _).alloc _) (Nat.le_refl _) _) _ | exact Grow.alloc (Grow.drew (Below.setCell (Below.setCell ((Grow.refl _).alloc _) (Nat.le_refl _) _) (Nat.le_refl _) _)) _ | exact Grow.alloc (Below.setCell (Below.setCell ((Grow.refl _).alloc _) (Nat.le_refl _) _) (Nat.le_refl _) _) _ | exact (((Grow.refl _).alloc _).drew).alloc _)).ow _ (⟨op, d, a, (r : Int)⟩) 1 rfl (news_gen _ _ (by simp) (encL (⟨op, d, a, (r : Int)⟩)) _) (by simp; try omega) (by have := HT.out.sz; simp; omega) ?_; intro out2 w2 hown2 hgr2)
       have HT2 := Lib.hid (HT.out.app (y := ⟨op, d, a, (r : Int)⟩) (by first | exact Grow.alloc (Grow.drew (Below.setCell (Below.setCell HG9.out (Nat.le_refl _) _) (Nat.le_refl _) _)) _ | exact Grow.alloc (Below.setCell (Below.setCell HG9.out (Nat.le_refl _) _) (Nat.le_refl _) _) _ | exact Grow.alloc (Below.setCell (Below.setCell (Grow.drew HG9.out) (Nat.le_refl _) _) (Nat.le_refl _) _) _ | exact ((Grow.refl _).alloc _).alloc _ | exact Grow.alloc (Below.setCell HG3.out (Nat.le_refl _) _) _ | exact Grow.alloc (Below.setCell ((Grow.refl _).alloc _) (Nat.le_refl _) _) _ | exact Grow.alloc (Grow.drew (Below.setCell (Below.setCell ((Grow.refl _).alloc _) (Nat.le_refl _) _) (Nat.le_refl _) _)) _ | exact Grow.alloc (Below.setCell (Below.setCell ((Grow.refl _).alloc _) (Nat.le_refl _) _) (Nat.le_refl _) _) _ | exact (((Grow.refl _).alloc _).drew).alloc _) hown2 hgr2)
       clear hown2 hgr2
       go_roundw
       case rel => exact ⟨r + 1, by omega, by go_num, by rw [snoc_range _ _ r]; exact HT2.out⟩
       case measure => simp [intOf]; omega
      ·have hr4 : r = 4 := by omega
       subst hr4
       go_wp2_with fail
       go_roundw
       case rel => exact ⟨_, .inr (.inr (.inr ( ⟨by first | rfl | go_num, rfl⟩))), HT.out⟩
       case measure => simp [intOf]
    ·obtain ⟨e0, e1, e2, e3⟩ := box4 HT.out.bx
     have hz := lt_of_block HT.out.bx
     go_wp2_with fail
     have hb9 := heap_alloc_new wr (.cells #[.int .i64 op, .int .i64 d, .int .i64 a, .int .i64 b] 57)
     have hg9 : Grow wr (wr.alloc (.cells #[.int .i64 op, .int .i64 d, .int .i64 a, .int .i64 b] 57)) := (Grow.refl wr).alloc _
     have hl9 := hg9.blk HT.out.bx
     clear e0 e1 e2 e3 hz
     generalize wr.alloc (.cells #[.int .i64 op, .int .i64 d, .int .i64 a, .int .i64 b] 57) = W at hb9 hg9 hl9 ⊢
     obtain ⟨e0, e1, e2, e3⟩ := box4 hl9
     obtain ⟨m0, m1, m2, m3⟩ := box4 hb9
     have z2 := frz hb9 2
     have z3 := frz hb9 3
     have hz := lt_of_block hl9
     have hz9 := lt_of_block hb9
     have HG9 := Lib.hid hg9
     have hne9 : wr.heap.size ≠ w.heap.size := by have := HT.out.sz; omega
     have hwl9 : w.heap.size < wr.heap.size := by have := HT.out.sz; omega
     have y2 : (W.setCell ⟨wr.heap.size, 2, none⟩ (.int .i64 b)).drew.cell? ⟨w.heap.size, 2, none⟩ = some (.int .i64 a) := (Below.cell (p := ⟨w.heap.size, 2, none⟩) (Below.setCell (Below.refl wr.heap.size W) (Nat.le_refl _) _) hwl9).trans e2
     have y3 : (W.setCell ⟨wr.heap.size, 2, none⟩ (.int .i64 b)).drew.frozen? ⟨wr.heap.size, 3, none⟩ = false := (World.frozen?_setCell _ _ _ _).trans z3
     clear hb9 hg9 hl9
     go_region
     go_wp2_with (at_builtin; refine wpList_app _ rfl (.tmp 73) (.tmp 75) 22 rfl (w.heap.size + 1) 57 Tryz.underlying22 info_ln rfl (by decide) (by decide) encL encL_len encL_one _ ((([⟨0, 0, 0, 0⟩, ⟨op, d, a, b⟩, ⟨op, d, a, b⟩] : List Ln) ++ ((List.range 4).map fun n : Nat => (⟨op, (n : Int), a, b⟩ : Ln)) ++ ((List.range 4).map fun n : Nat => (⟨op, d, (n : Int), b⟩ : Ln)) ++ ((List.range 4).map fun n : Nat => (⟨op, d, a, (n : Int)⟩ : Ln)))) rfl (HT.out.grow (Grow.drew (Grow.alloc (Below.setCell (Below.setCell HG9.out (Nat.le_refl _) _) (Nat.le_refl _) _) _))).ow _ (⟨op, d, b, a⟩) 1 rfl (news_drewG _ _ (by simp) (encL (⟨op, d, b, a⟩)) _) (by simp; try omega) (by have := HT.out.sz; simp; omega) ?_; intro out2 w2 hown2 hgr2; have HT2 := Lib.hid (HT.out.app (y := ⟨op, d, b, a⟩) (Grow.drew (Grow.alloc (Below.setCell (Below.setCell HG9.out (Nat.le_refl _) _) (Nat.le_refl _) _) _)) hown2 hgr2); clear hown2 hgr2; obtain ⟨g0, g1, g2, g3⟩ := box4 HT2.out.bx; have hzg := lt_of_block HT2.out.bx)
     clear HT e0 e1 e2 e3 hz m0 m1 m2 m3 z2 z3 hz9 HG9 hne9 hwl9 y2 y3
     have HT := HT2
     clear HT2
     refine swithin_any _ _ _ _ _ ?_
     rw [inB_true.2 ⟨h3, h6⟩]
     go_wp2_with fail
     go_loopw [3, 10] (fun out o wr => ∃ j k : Nat, k = 3 + j ∧ j ≤ 4 ∧ o = .int .i64 k ∧ TI w (⟨op, d, a, b⟩ : Ln) ((([⟨0, 0, 0, 0⟩, ⟨op, d, a, b⟩, ⟨op, d, a, b⟩] : List Ln) ++ ((List.range 4).map fun n : Nat => (⟨op, (n : Int), a, b⟩ : Ln)) ++ ((List.range 4).map fun n : Nat => (⟨op, d, (n : Int), b⟩ : Ln)) ++ ((List.range 4).map fun n : Nat => (⟨op, d, a, (n : Int)⟩ : Ln))) ++ [⟨op, d, b, a⟩] ++ (List.range j).map (fun n : Nat => (⟨3 + (n : Int), d, a, b⟩ : Ln))) out wr) (fun _ o _ => (7 - intOf o).toNat)
     case atStart => exact ⟨0, 3, rfl, by omega, rfl, by rw [List.range_zero, List.map_nil, List.append_nil]; exact HT.out⟩
     case round =>
      obtain ⟨j, k, hk, hj, rfl, ht⟩ := hrel
      clear HT g0 g1 g2 g3 hzg
      have HT := Lib.hid ht
      have HK := Lib.hid hk
      obtain ⟨e0, e1, e2, e3⟩ := box4 ht.bx
      have hz := lt_of_block ht.bx
      clear ht
      by_cases hlt : j < 4
      ·have hlt2 : (k : Int) ≤ 6 := by omega
       clear hk
       go_wp2_with (at_builtin; refine wpList_app _ rfl (.tmp 87) (.tmp 89) 22 rfl (w.heap.size + 1) 57 Tryz.underlying22 info_ln rfl (by decide) (by decide) encL encL_len encL_one _ ((([⟨0, 0, 0, 0⟩, ⟨op, d, a, b⟩, ⟨op, d, a, b⟩] : List Ln) ++ ((List.range 4).map fun n : Nat => (⟨op, (n : Int), a, b⟩ : Ln)) ++ ((List.range 4).map fun n : Nat => (⟨op, d, (n : Int), b⟩ : Ln)) ++ ((List.range 4).map fun n : Nat => (⟨op, d, a, (n : Int)⟩ : Ln))) ++ [⟨op, d, b, a⟩] ++ (List.range j).map (fun n : Nat => (⟨3 + (n : Int), d, a, b⟩ : Ln))) rfl (HT.out.grow (by first | exact Grow.alloc (Grow.drew (Below.setCell (Below.setCell HG9.out (Nat.le_refl _) _) (Nat.le_refl _) _)) _ | exact Grow.alloc (Below.setCell (Below.setCell HG9.out (Nat.le_refl _) _) (Nat.le_refl _) _) _ | exact Grow.alloc (Below.setCell (Below.setCell (Grow.drew HG9.out) (Nat.le_refl _) _) (Nat.le_refl _) _) _ | exact ((Grow.refl _).alloc _).alloc _ | exact Grow.alloc (Below.setCell HG3.out (Nat.le_refl _) _) _ | exact Grow.alloc (Below.setCell ((Grow.refl _).alloc _) (Nat.le_refl _) _) _ | exact Grow.alloc (Grow.drew (Below.setCell (Below.setCell ((Grow.refl _).alloc _) (Nat.le_refl _) _) (Nat.le_refl _) _)) _ | exact Grow.alloc (Below.setCell (Below.setCell ((Grow.refl _).alloc _) (Nat.le_refl _) _) (Nat.le_refl _) _) _ | exact (((Grow.refl _).alloc _).drew).alloc _)).ow _ (⟨(k : Int), d, a, b⟩) 1 rfl (news_gen _ _ (by simp) (encL (⟨(k : Int), d, a, b⟩)) _) (by simp; try omega) (by have := HT.out.sz; simp; omega) ?_; intro out2 w2 hown2 hgr2)
       have HT2 := Lib.hid (HT.out.app (y := ⟨(k : Int), d, a, b⟩) (by first | exact Grow.alloc (Grow.drew (Below.setCell (Below.setCell HG9.out (Nat.le_refl _) _) (Nat.le_refl _) _)) _ | exact Grow.alloc (Below.setCell (Below.setCell HG9.out (Nat.le_refl _) _) (Nat.le_refl _) _) _ | exact Grow.alloc (Below.setCell (Below.setCell (Grow.drew HG9.out) (Nat.le_refl _) _) (Nat.le_refl _) _) _ | exact ((Grow.refl _).alloc _).alloc _ | exact Grow.alloc (Below.setCell HG3.out (Nat.le_refl _) _) _ | exact Grow.alloc (Below.setCell ((Grow.refl _).alloc _) (Nat.le_refl _) _) _ | exact Grow.alloc (Grow.drew (Below.setCell (Below.setCell ((Grow.refl _).alloc _) (Nat.le_refl _) _) (Nat.le_refl _) _)) _ | exact Grow.alloc (Below.setCell (Below.setCell ((Grow.refl _).alloc _) (Nat.le_refl _) _) (Nat.le_refl _) _) _ | exact (((Grow.refl _).alloc _).drew).alloc _) hown2 hgr2)
       clear hown2 hgr2
       go_roundw
       case rel => exact ⟨j + 1, k + 1, by have := HK.out; omega, by omega, by go_num, by rw [snoc_range _ _ j, show (3 + (j : Int)) = (k : Int) by have := HK.out; omega]; exact HT2.out⟩
       case measure => simp [intOf]; omega
      ·have hj4 : j = 4 := by omega
       subst hj4
       subst hk
       obtain ⟨g, cap, rfl, hg1, hg2, hc1, hc2, hrow⟩ := HT.out.end_ (by simp)
       have HROW := Lib.hid hrow
       clear hrow
       go_wp2_with fail
       refine svalid_any ((([⟨0, 0, 0, 0⟩, ⟨op, d, a, b⟩, ⟨op, d, a, b⟩] : List Ln) ++ ((List.range 4).map fun n : Nat => (⟨op, (n : Int), a, b⟩ : Ln)) ++ ((List.range 4).map fun n : Nat => (⟨op, d, (n : Int), b⟩ : Ln)) ++ ((List.range 4).map fun n : Nat => (⟨op, d, a, (n : Int)⟩ : Ln))) ++ [⟨op, d, b, a⟩] ++ (List.range 4).map (fun n : Nat => (⟨3 + (n : Int), d, a, b⟩ : Ln))) op d a b g 20 cap w.heap.size _ (by simp) HROW.out hg2 (by omega) (by simpa using hc1) hc2 (by decide) _ ?_
       intro w3 hb3 hg3 hr3
       have hle : (validL ((([⟨0, 0, 0, 0⟩, ⟨op, d, a, b⟩, ⟨op, d, a, b⟩] : List Ln) ++ ((List.range 4).map fun n : Nat => (⟨op, (n : Int), a, b⟩ : Ln)) ++ ((List.range 4).map fun n : Nat => (⟨op, d, (n : Int), b⟩ : Ln)) ++ ((List.range 4).map fun n : Nat => (⟨op, d, a, (n : Int)⟩ : Ln))) ++ [⟨op, d, b, a⟩] ++ (List.range 4).map (fun n : Nat => (⟨3 + (n : Int), d, a, b⟩ : Ln))) (⟨op, d, a, b⟩ : Ln)).length ≤ cap := Nat.le_trans (validL_len _ _) hc1
       have HF := Lib.hid (HR.out _ _ (Below.trans HT.out.g hb3) (hr3.slc hg3 hle hc2))
       clear hb3 hr3
       go_wp2_with fail
       exact HF.out
end Go.Proofs.YtmeejlgnhfkeaaaGreatDoor

namespace Go.Proofs.YtmeejlgnhfkeaaaGreatDoor
open Go.RowKit
structure AL (w : World) (xs : List Ln) (out : Value) (wr : World) : Prop where
 g : Grow w wr
 ow : wr.ownsRow w.heap.size 57 4 out xs.length (xs.flatMap encL)
theorem AL.grow {w : World} {xs : List Ln} {out : Value} {wr W : World} (h : AL w xs out wr) (g : Grow wr W) : AL w xs out W := ⟨h.g.trans g, g.owns h.ow⟩
theorem AL.app {w : World} {y : Ln} {xs : List Ln} {out out' : Value} {wr W w2 : World} (h : AL w xs out wr) (g : Grow wr W) (ho : w2.ownsRow w.heap.size 57 4 out' (xs ++ [y]).length ((xs ++ [y]).flatMap encL)) (hg : W.grownBy w2 out.ownBlock) : AL w (xs ++ [y]) out' w2 :=
 have h2 := h.grow g
 ⟨grown_below h2.ow hg (by omega) h2.g.sz h2.g, ho⟩
theorem AL.end_ {w : World} {xs : List Ln} {out : Value} {wr : World} (h : AL w xs out wr) (hp : 0 < xs.length) : ∃ g cap, out = .slice (some ⟨g, 0, none⟩) xs.length cap ∧ w.heap.size ≤ g ∧ g < wr.heap.size ∧ xs.length ≤ cap ∧ cap ≤ 9223372036854775807 ∧ RowL wr g 0 xs := by
 have hr := h.ow
 rcases h.ow.2 with ⟨_, h0⟩ | ⟨g, cap, cur, rfl, hg, hh, _⟩
 ·omega
 ·obtain ⟨_, c, e, h1, h2, _⟩ := slc_of_owns encL_len h.ow
  cases e
  exact ⟨g, cap, rfl, hg, lt_of_block hh, h1, h2, RowL.of_own h.ow⟩
theorem flat_len {α : Type} (f : Nat → List α) (m : Nat) (h : ∀ k, (f k).length ≤ m) : ∀ n, ((List.range n).flatMap f).length ≤ m * n
 | 0 => by simp
 | n + 1 => by
  rw [range_flat, List.length_append]
  have := flat_len f m h n
  have := h n
  rw [Nat.mul_succ]; omega
theorem okOf_len (l : Ln) : (okOf l).length ≤ 1 := by unfold okOf; split <;> simp
theorem allB_len (op d a : Int) (n : Nat) : (allB op d a n).length ≤ n := by have := flat_len (fun b : Nat => okOf ⟨op, d, a, (b : Int)⟩) 1 (fun _ => okOf_len _) n; unfold allB; omega
theorem allA_len (op d : Int) (n : Nat) : (allA op d n).length ≤ 4 * n := flat_len (fun a : Nat => allB op d ((a : Int) - 9) 4) 4 (fun _ => allB_len _ _ _ _) n
theorem allD_len (op : Int) (n : Nat) : (allD op n).length ≤ 76 * n := flat_len (fun d : Nat => allA op (d : Int) 19) 76 (fun d => Nat.le_trans (allA_len op (d : Int) 19) (by omega)) n
theorem allO_len (n : Nat) : (allO n).length ≤ 684 * n := flat_len (fun o : Nat => allD (o : Int) 9) 684 (fun o => Nat.le_trans (allD_len (o : Int) 9) (by omega)) n
theorem all_len (o j m r : Nat) (x : Int) (ho : o < 8) (hj : j < 9) (hm : m < 19) (hr : r < 4) : (allO o ++ allD o j ++ allA o j m ++ allB o j x r).length < 100000000000 := by
 have h1 := allO_len o
 have h2 := allD_len o j
 have h3 := allA_len o j m
 have h4 := allB_len o j x r
 simp only [List.length_append]
 omega
set_option maxRecDepth 100000 in
set_option maxHeartbeats 16000000 in
theorem All_any (w : World) (R : Ending → World → Prop)
  (hR : ∀ w' g cap, Below w.heap.size w w' → w.heap.size ≤ g → g < w'.heap.size → allR.length ≤ cap → cap ≤ 9223372036854775807 → RowL w' g 0 allR → R (.returned (.slice (some ⟨g, 0, none⟩) allR.length cap)) w') :
  Calls Tryz.prog 291 #[] w R := by
 have HR := Lib.hid hR
 clear hR
 go_enter Tryz.func291, Tryz.ntmps291
 go_wp2_with fail
 go_loopw [1, 2] (fun out op wr => ∃ o : Nat, o ≤ 8 ∧ op = .int .i64 o ∧ AL w (allO o) out wr) (fun _ op _ => (8 - intOf op).toNat)
 case atStart => exact ⟨0, by omega, rfl, Grow.refl _, World.ownsRow_nil _ _ _ _⟩
 case round =>
  obtain ⟨o, ho, rfl, ha⟩ := hrel
  have HA := Lib.hid ha
  clear ha
  by_cases hlt : o < 8
  ·have hlt2 : (o : Int) ≤ 7 := by omega
   go_wp2_with fail
   obtain ⟨wo, rfl⟩ : ∃ wo : World, wo = wr := ⟨_, rfl⟩
   go_loopw [1, 11] (fun out d wr => ∃ j : Nat, j ≤ 9 ∧ d = .int .i64 j ∧ AL w (allO o ++ allD o j) out wr) (fun _ d _ => (9 - intOf d).toNat)
   case atStart => exact ⟨0, by omega, rfl, by show AL w (allO o ++ []) _ _; rw [List.append_nil]; exact HA.out⟩
   case round =>
    obtain ⟨j, hj, rfl, ha⟩ := hrel
    clear HA
    have HA := Lib.hid ha
    clear ha
    by_cases hltj : j < 9
    ·have hltj2 : (j : Int) < 9 := by omega
     go_wp2_with fail
     obtain ⟨wj, rfl⟩ : ∃ wj : World, wj = wr := ⟨_, rfl⟩
     go_loopw [1, 4] (fun out a wr => ∃ (m : Nat) (x : Int), m ≤ 19 ∧ x = (m : Int) - 9 ∧ a = .int .i64 x ∧ AL w (allO o ++ allD o j ++ allA o j m) out wr) (fun _ a _ => (10 - intOf a).toNat)
     case atStart => exact ⟨0, -9, by omega, by omega, rfl, by show AL w (allO o ++ allD o j ++ []) _ _; rw [List.append_nil]; exact HA.out⟩
     case round =>
      obtain ⟨m, x, hm, hx, rfl, ha⟩ := hrel
      clear HA
      have HA := Lib.hid ha
      have HX := Lib.hid hx
      clear ha
      by_cases hltm : m < 19
      ·have hx1 : x ≤ 9 := by omega
       have hx0 : -9 ≤ x := by omega
       clear hx
       go_wp2_with fail
       obtain ⟨wm, rfl⟩ : ∃ wm : World, wm = wr := ⟨_, rfl⟩
       go_loopw [1, 18] (fun out b wr => ∃ r : Nat, r ≤ 4 ∧ b = .int .i64 r ∧ AL w (allO o ++ allD o j ++ allA o j m ++ allB o j x r) out wr) (fun _ b _ => (4 - intOf b).toNat)
       case atStart => exact ⟨0, by omega, rfl, by show AL w (allO o ++ allD o j ++ allA o j m ++ []) _ _; rw [List.append_nil]; exact HA.out⟩
       case round =>
        obtain ⟨r, hr, rfl, ha⟩ := hrel
        clear HA
        have HA := Lib.hid ha
        clear ha
        by_cases hltr : r < 4
        ·have hltr2 : (r : Int) < 4 := by omega
         have HLEN := Lib.hid (all_len o j m r x hlt hltj hltm hltr)
         have HN := Lib.hid (allB_succ o j x r)
         go_wp2_with fail
         have hb := heap_alloc_new wr (.cells #[.int .i64 o, .int .i64 j, .int .i64 x, .int .i64 r] 57)
         have hg := (Grow.refl wr).alloc (.cells #[.int .i64 o, .int .i64 j, .int .i64 x, .int .i64 r] 57)
         refine validateLine_any o j x r _ _ ?_
         intro w1 hg1
         have HG := Lib.hid (hg.trans hg1)
         have hb1 := hg1.blk hb
         obtain ⟨e0, e1, e2, e3⟩ := box4 hb1
         have hz := lt_of_block hb1
         clear hb hg hg1 hb1
         cases hv : vL o j x r with
         | false =>
          rw [errB_false]
          have HV := Lib.hid hv
          clear hv
          go_wp2_with fail
          go_roundw
          case rel =>
           refine ⟨r + 1, by omega, by go_num, ?_⟩
           rw [HN.out, show okOf ⟨(o : Int), (j : Int), x, (r : Int)⟩ = [] from by unfold okOf Ln.ok; rw [HV.out]; rfl, List.append_nil]
           exact HA.out.grow HG.out
          case measure => simp [intOf]; omega
         | true =>
          rw [errB_true]
          have HV := Lib.hid hv
          clear hv
          go_wp2_with (at_builtin; refine wpList_app _ rfl (.tmp 29) (.tmp 31) 22 rfl w.heap.size 57 Tryz.underlying22 info_ln rfl (by decide) (by decide) encL encL_len encL_one _ (allO o ++ allD o j ++ allA o j m ++ allB o j x r) rfl (HA.out.grow (HG.out.alloc _)).ow _ (⟨o, j, x, r⟩ : Ln) 1 rfl (news_gen _ _ (by simp) (encL ⟨o, j, x, r⟩) _) HLEN.out (by have := HA.out.g.sz; have := HG.out.sz; simp; omega) ?_; intro out2 w2 hown2 hgr2)
          have HA2 := Lib.hid (HA.out.app (y := ⟨o, j, x, r⟩) (HG.out.alloc _) hown2 hgr2)
          clear hown2 hgr2
          go_roundw
          case rel =>
           refine ⟨r + 1, by omega, by go_num, ?_⟩
           rw [HN.out, show okOf ⟨(o : Int), (j : Int), x, (r : Int)⟩ = [⟨(o : Int), (j : Int), x, (r : Int)⟩] from by unfold okOf Ln.ok; rw [HV.out]; rfl, ← List.append_assoc]
           exact HA2.out
          case measure => simp [intOf]; omega
        ·have hr4 : r = 4 := by omega
         subst hr4
         go_wp2_with fail
         go_roundw
         case rel =>
          refine ⟨m + 1, x + 1, by omega, by have := HX.out; omega, rfl, ?_⟩
          rw [allA_succ, ← HX.out, ← List.append_assoc]
          exact HA.out
         case measure => simp [intOf]; omega
      ·have hm19 : m = 19 := by omega
       subst hm19
       have hx10 : x = 10 := by omega
       subst hx10
       clear hx HX
       go_wp2_with fail
       go_roundw
       case rel =>
        refine ⟨j + 1, by omega, by go_num, ?_⟩
        rw [allD_succ, ← List.append_assoc]
        exact HA.out
       case measure => simp [intOf]; omega
    ·have hj9 : j = 9 := by omega
     subst hj9
     go_wp2_with fail
     go_roundw
     case rel =>
      refine ⟨o + 1, by omega, by go_num, ?_⟩
      rw [allO_succ]
      exact HA.out
     case measure => simp [intOf]; omega
  ·have ho8 : o = 8 := by omega
   subst ho8
   have hlen : (allO 8).length = allR.length := by rw [allR_eq]
   obtain ⟨g, cap, rfl, hg1, hg2, hc1, hc2, hrow⟩ := HA.out.end_ (by rw [hlen]; decide)
   have HROW := Lib.hid hrow
   have HL := Lib.hid hlen
   clear hrow hlen
   go_wp2_with fail
   refine ordered_any (allO 8) g _ cap w.heap.size _ rfl HROW.out hg2 hg1 hc1 hc2 (by have := allO_len 8; omega) _ ?_
   intro w3 hb3 hg3 hr3
   rw [ordL_all] at hr3 ⊢
   have HF := Lib.hid (HR.out _ g cap (Below.trans HA.out.g hb3) hg1 hg3 (by rw [← HL.out]; exact hc1) hc2 hr3)
   clear hb3 hr3
   go_wp2_with fail
   exact HF.out
end Go.Proofs.YtmeejlgnhfkeaaaGreatDoor

namespace Go.Proofs.YtmeejlgnhfkeaaaGreatDoor
open Go.RowKit
set_option maxHeartbeats 1000000 in
theorem cloneLn_any (xs : List Ln) (v : Value) (w : World) (hx : SlcAt 4 encL w v xs) (hn : xs.length < 10000000000) (R : Ending → World → Prop) (hR : ∀ w' x, Grow w w' → Own 4 encL w.heap.size w' x xs → R (.returned x) w') :
  Calls Tryz.prog 52 #[v] w R := by
 have hx' := hx
 obtain ⟨a, c, rfl, h1, h2, h3⟩ := hx'
 have HX := Lib.hid hx
 have HR := Lib.hid hR
 clear hx hR
 have heq := fun (W : World) (a : Option Addr) (n c : Nat) => Lib.run_eql_slice_nil (P := Tryz.prog) W 22 57 a n c 0 0 Tryz.underlying22
 cases a with
 | none =>
  have hxs : xs = [] := by
   rcases h3 with ⟨h3, _⟩ | ⟨b, o, h3, _⟩
   ·exact h3
   ·cases h3
  subst hxs
  clear h3
  go_enter Tryz.func52, Tryz.ntmps52
  go_wp2_with fail
  exact HR.out _ _ (Grow.refl _) (Own.nil _ _ _ _)
 | some ad =>
  clear h3
  go_enter Tryz.func52, Tryz.ntmps52
  go_wp2_with (at_builtin; refine wpList_appAll _ rfl (.tmp 5) (.tmp 6) 22 rfl w.heap.size 57 Tryz.underlying22 info_ln rfl (by decide) (by decide) encL encL_len encL_one _ [] rfl (ownsRow_empty w 4 _ _ _ (Nat.le_refl _)) _ xs rfl (HX.out.grow ((Grow.refl w).alloc _)) (by simp; omega) (by simp) ?_; intro v1 w1 hown1 hgr1)
  exact HR.out _ _ (grown_below (ownsRow_empty w 4 57 encL _ (Nat.le_refl _)) hgr1 (Nat.le_refl _) (by simp) ((Grow.refl w).alloc _)) ⟨_, hown1⟩
end Go.Proofs.YtmeejlgnhfkeaaaGreatDoor
