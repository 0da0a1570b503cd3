/-
The walks of the library's sort, Compact and DeleteFunc on lines.
The walk of the library's Compact on lines.
The walks of the library's IndexFunc and DeleteFunc on lines, with the closure of valid.
-/
import Derived.Test.YtfbfkkaepgcggaaGreatQ23
import Derived.Test.YtfbfkkaepgcggaaGreatQ24
import Derived.Test.YtfbfkkaepgcggaaGreatQ12
import Derived.Test.YtfbfkkaepgcggaaGreatQ25
import Derived.Test.YtfbfkkaepgcggaaGreatQ26
import Derived.Deep.QuietTactic
import Derived.BigQuiet
namespace Go.Proofs.YtfbfkkaepgcggaaGreat
open Go.RowKit

set_option maxHeartbeats 1000000 in
theorem sortLn_any (xs : List Ln) (g cap B : Nat) (w : World) (hrow : RowL w g 0 xs) (hg : g < w.heap.size) (hB : B ≤ g) (hn : xs.length < 4611686018427387904) (R : Ending → World → Prop)
    (hR : ∀ w' ys, Below B w w' → g < w'.heap.size → RowL w' g 0 ys → ys.length = xs.length → (∀ x, x ∈ ys ↔ x ∈ xs) → WeakL ys → R (.returned (.tuple #[])) w') :
    Calls Tryz.prog 103 #[.slice (some ⟨g, 0, none⟩) xs.length cap, .func (.func 85) #[] #[]] w R := by
  have eg : ∀ args w, (callFunc 85 args).run Tryz.prog w = .ok (.enter 85 args) w := enters_of Tryz.func85 (by kernel_rfl) rfl
  have hcon := AnyQ.slices_SortFunc Tryz.sortLn 4 Tryz.isAgg44 Tryz.sizeOf44 encL encL_len (fun x v hv => encL_one x v hv) cmpL swoL 85 #[] g 0 cap xs.toArray w eg (cmpL_lays g 0 _ w) hrow.holds hg (by simpa using hn)
  change Calls Tryz.prog 103 _ _ _ at hcon
  rw [show xs.toArray.size = xs.length by simp] at hcon
  refine hcon.mono ?_
  rintro e w' ⟨rfl, d', n, os, ⟨hsz, _, hperm⟩, hs, rfl⟩
  have hsz' : d'.size = xs.length := by simpa using hsz
  have hall : d'.toList.Perm xs := by
    have h1 : (d'.extract 0 xs.length).toList = d'.toList := by rw [← hsz']; simp
    have h2 : ((xs.toArray).extract 0 xs.length).toList = xs := by simp
    rw [h1, h2] at hperm; exact hperm
  have hbel : Below B w (sortWorldK encL 4 w g 0 n d' os) := by
    unfold sortWorldK
    refine below_growS os (below_putRow id w n g 0 (Go.Sort.flatK encL 4 d') hB) ?_
    have := (below_putRow id w n g 0 (Go.Sort.flatK encL 4 d') hB).size
    have hz : w.heap.size ≤ (Go.Sort.putRowK encL 4 (Go.Sort.ahead w n) g 0 d').heap.size := by
      show w.heap.size ≤ (w.heap.modify g _).size; simp
    omega
  have hlt : g < (sortWorldK encL 4 w g 0 n d' os).heap.size := by
    have := size_sortWorldK_c encL 4 w g 0 n d' os; omega
  have hhold : RowL (sortWorldK encL 4 w g 0 n d' os) g 0 d'.toList := by
    refine RowL.of_holds ?_
    have := holdsK_sortWorldK_c encL 4 w g 0 xs.toArray d' n os hrow.holds hg (by simpa using hsz')
    simpa using this
  refine hR _ d'.toList hbel hlt hhold (by simpa using hsz') (fun x => hall.mem_iff) ?_
  unfold WeakL
  rw [List.pairwise_iff_getElem]
  intro i j hi hj hij
  have hj' : j < d'.size := by simpa using hj
  have := hs i j (Nat.zero_le _) hij (by rw [← hsz']; exact hj')
  have h2 : decide (cmpL d'[j]! d'[i]! < 0) = false := this
  rw [cmpL_lt] at h2
  have h3 := of_decide_eq_false h2
  rw [getElem!_pos d' j hj', getElem!_pos d' i (by omega)] at h3
  simpa using h3

/-! ### Clear -/
def zerosL (n : Nat) : List Value := (Builtin.zeroCells (Value.agg #[.int .i64 0, .int .i64 0, .int .i64 0, .int .i64 0]).cells n).toList
theorem zerosL_length (n : Nat) : (zerosL n).length = n * 4 := by
  unfold zerosL; rw [Array.length_toList, size_zeroCells]; rfl
theorem zerosL_one (n : Nat) : ∀ v ∈ zerosL n, v.oneCell' = true := by
  intro v hv
  unfold zerosL Builtin.zeroCells at hv
  rw [Array.toList_map, List.mem_map] at hv
  obtain ⟨i, _, rfl⟩ := hv
  have h4 : (Value.agg #[.int .i64 0, .int .i64 0, .int .i64 0, .int .i64 0]).cells.size = 4 := rfl
  rw [h4]
  have : i % 4 = 0 ∨ i % 4 = 1 ∨ i % 4 = 2 ∨ i % 4 = 3 := by omega
  rcases this with h | h | h | h <;> rw [h] <;> rfl
theorem run_clear_lines (w : World) (ty g o n c : Nat) (hn : 0 < n) (hc : ∀ j, j < n * 4 → (w.cell? ⟨g, o + j, none⟩).isSome = true) (hf : ∀ j, j < n * 4 → w.frozen? ⟨g, o + j, none⟩ = false) :
    (Builtin.clear_ #[23] ty #[.slice (some ⟨g, o, none⟩) n c]).run Tryz.prog w = .ok (.tuple #[]) (w.setCells g o (zerosL n)) := by
  have hst := run_storeCells_cells (P := Tryz.prog) g o (zerosL n) 0 w (by rw [zerosL_length]; simpa using hc) (by rw [zerosL_length]; simpa using hf) (zerosL_one n)
  simp only [Nat.add_zero] at hst
  obtain ⟨m, rfl⟩ : ∃ m, n = m + 1 := ⟨n - 1, by omega⟩
  unfold zerosL at hst ⊢
  simp [Builtin.clear_, run_underlying Tryz.underlying23, hst]
theorem RowL.cleared {w : World} {g : Nat} {ys : List Ln} (h : RowL w g 0 ys) (k n : Nat) : RowL (w.setCells g (k * 4) (zerosL n)) g 0 (ys.take k) := by
  intro j l hj i u hu
  have hi : i < 4 := by have := (List.getElem?_eq_some_iff.1 hu).1; rw [encL_len] at this; exact this
  rw [List.getElem?_take] at hj
  split at hj
  · next hjk =>
    obtain ⟨h1, h2⟩ := h j l hj i u hu
    rw [World.frozen?_setCells, World.cell?_setCells_out g (zerosL n) (k * 4) w ⟨g, 0 + j * 4 + i, none⟩ (fun _ _ => .inl (by dsimp only; omega))]
    exact ⟨h1, h2⟩
  · cases hj
theorem RowL.isSome {w : World} {g : Nat} {ys : List Ln} (h : RowL w g 0 ys) {t : Nat} (ht : t < ys.length * 4) : (w.cell? ⟨g, t, none⟩).isSome = true ∧ w.frozen? ⟨g, t, none⟩ = false := by
  have hq : t / 4 < ys.length := by omega
  obtain ⟨h1, h2⟩ := h (t / 4) _ (List.getElem?_eq_getElem hq) (t % 4) _ (encL_get! _ _ (Nat.mod_lt _ (by omega)))
  rw [show 0 + t / 4 * 4 + t % 4 = t by omega] at h1 h2
  exact ⟨by rw [h1]; rfl, h2⟩
theorem below_setCells {B : Nat} {a : World} (g : Nat) (hB : B ≤ g) : ∀ (vs : List Value) (o : Nat) (w : World), Below B a w → Below B a (w.setCells g o vs)
  | [], _, _, h => h
  | _ :: r, o, _, h => below_setCells g hB r (o + 1) _ (Below.setCell h hB _)
theorem size_setCells' (g : Nat) : ∀ (vs : List Value) (o : Nat) (w : World), (w.setCells g o vs).heap.size = w.heap.size
  | [], _, _ => rfl
  | _ :: r, _, _ => by rw [World.setCells, size_setCells' g r, World.size_setCell]
end Go.Proofs.YtfbfkkaepgcggaaGreat

namespace Go.Proofs.YtfbfkkaepgcggaaGreat
open Go.RowKit

theorem RowL.at0 {w : World} {g : Nat} {xs : List Ln} (h : RowL w g 0 xs) {k : Nat} {op d a b : Int} (hk : xs[k]? = some ⟨op, d, a, b⟩) :
    (w.cell? ⟨g, k * 4, none⟩ = some (.int .i64 op) ∧ w.cell? ⟨g, k * 4 + 1, none⟩ = some (.int .i64 d) ∧ w.cell? ⟨g, k * 4 + 2, none⟩ = some (.int .i64 a) ∧ w.cell? ⟨g, k * 4 + 3, none⟩ = some (.int .i64 b)) ∧
    (w.frozen? ⟨g, k * 4, none⟩ = false ∧ w.frozen? ⟨g, k * 4 + 1, none⟩ = false ∧ w.frozen? ⟨g, k * 4 + 2, none⟩ = false ∧ w.frozen? ⟨g, k * 4 + 3, none⟩ = false) := by
  have := h.at hk
  simpa using this
theorem RowL.atOff {w : World} {g : Nat} {xs : List Ln} (h : RowL w g 0 xs) {p q : Nat} {op d a b : Int} (hk : xs[p + q]? = some ⟨op, d, a, b⟩) :
    w.cell? ⟨g, p * 4 + q * 4, none⟩ = some (.int .i64 op) ∧ w.cell? ⟨g, p * 4 + q * 4 + 1, none⟩ = some (.int .i64 d) ∧ w.cell? ⟨g, p * 4 + q * 4 + 2, none⟩ = some (.int .i64 a) ∧ w.cell? ⟨g, p * 4 + q * 4 + 3, none⟩ = some (.int .i64 b) := by
  have := (h.at0 hk).1
  rw [show (p + q) * 4 = p * 4 + q * 4 by omega] at this
  exact this
theorem RowL.set0 {w : World} {g : Nat} {xs : List Ln} (h : RowL w g 0 xs) {k : Nat} (hk : k < xs.length) (l : Ln) : RowL (storeL w g (k * 4) l) g 0 (xs.set k l) := by
  have := h.set hk l
  rwa [Nat.zero_add] at this


set_option maxRecDepth 100000 in
set_option maxHeartbeats 16000000 in
theorem compactLn_any (xs : List Ln) (g n cap B : Nat) (w : World) (hn : xs.length = n) (hrow : RowL w g 0 xs) (hg : g < w.heap.size) (hB : B ≤ g) (hcap : n ≤ cap) (hm : cap ≤ 9223372036854775807) (R : Ending → World → Prop)
    (hR : ∀ w', Below B w w' → g < w'.heap.size → RowL w' g 0 (compL xs) → R (.returned (.slice (some ⟨g, 0, none⟩) (compL xs).length cap)) w') :
    Calls Tryz.prog 104 #[.slice (some ⟨g, 0, none⟩) n cap] w R := by
  have HN := Lib.hid hn
  have HROW := Lib.hid hrow
  have HR := Lib.hid hR
  clear hrow hR hn
  by_cases h2 : n < 2
  · have hc : compL xs = xs := by
      have hl := HN.out
      match xs, hl with
      | [], _ => rfl
      | [x], _ => rfl
      | x :: y :: r, hl => simp at hl; omega
    have hf := HR.out w (Below.refl _ _) hg (by rw [hc]; exact HROW.out)
    rw [hc, HN.out] at hf
    have HF := Lib.hid hf
    clear hf hc
    go_enter Tryz.func104, Tryz.ntmps104
    go_wp2_with fail
    exact HF.out
  · have h2i : ¬ (n : Int) < 2 := by omega
    have hnm : n ≤ 9223372036854775807 := by omega
    go_enter Tryz.func104, Tryz.ntmps104
    go_wp2_with fail
    go_loopw [3] (fun i wr => ∃ k : Nat, 1 ≤ k ∧ k ≤ n ∧ i = .int .i64 k ∧ Below B w wr ∧ g < wr.heap.size ∧ RowL wr g 0 xs ∧ ∀ j x y, j + 1 < k → xs[j]? = some x → xs[j + 1]? = some y → y ≠ x) (fun i _ => n - (intOf i).toNat)
    case atStart => exact ⟨1, Nat.le_refl _, by omega, rfl, Below.refl _ _, hg, HROW.out, fun j x y hj => by omega⟩
    case round =>
      obtain ⟨k, hk1, hk, rfl, hb, hgw, hrw, hno⟩ := hrel
      have HB := Lib.hid hb
      have HRW := Lib.hid hrw
      have HNO := Lib.hid hno
      clear hb hrw hno
      by_cases hlt : k < n
      · obtain ⟨j, hj⟩ : ∃ j, k = j + 1 := ⟨k - 1, by omega⟩
        have hjk : (k : Int) - 1 = (j : Int) := by omega
        have qw : IntKind.i64.wrap ((k : Int) - 1) = (j : Int) := by rw [hjk]; exact IntWalk.i64_in _ (by omega)
        have hjn : j < n := by omega
        have hjn2 : (j : Int) < (n : Int) := by omega
        have hkn2 : (k : Int) < (n : Int) := by omega
        have hj0 : (0 : Int) ≤ (j : Int) := by omega
        have hk0 : (0 : Int) ≤ (k : Int) := by omega
        have HJ := Lib.hid hj
        obtain ⟨⟨op, d, a, b⟩, hy⟩ : ∃ y, xs[k]? = some y := ⟨_, List.getElem?_eq_getElem (by rw [HN.out]; exact hlt)⟩
        obtain ⟨⟨op', d', a', b'⟩, hx⟩ : ∃ x, xs[j]? = some x := ⟨_, List.getElem?_eq_getElem (by rw [HN.out]; exact hjn)⟩
        obtain ⟨⟨c0, c1, c2, c3⟩, _⟩ := HRW.out.at0 hy
        obtain ⟨⟨e0, e1, e2, e3⟩, _⟩ := HRW.out.at0 hx
        have HX := Lib.hid hx
        have HY := Lib.hid hy
        clear hj hx hy
        by_cases hxy : (⟨op, d, a, b⟩ : Ln) = ⟨op', d', a', b'⟩
        · cases hxy
          obtain ⟨n2, rfl⟩ : ∃ n2, n = k + n2 := ⟨n - k, by omega⟩
          obtain ⟨cc, rfl⟩ : ∃ cc, cap = k + cc := ⟨cap - k, by omega⟩
          have hst : compL (xs.take (k + 1)) = xs.take k := by
            rw [HJ.out, compL_snoc (HX.out) (HJ.out ▸ HY.out), if_pos rfl, List.append_nil]
            exact compL_take_same (j + 1) (by rw [HN.out]; omega) (fun i x y hi hx hy => HNO.out i x y (by have := HJ.out; omega) hx hy)
          have HST := Lib.hid hst
          have hn20 : 0 < n2 := by omega
          clear hst
          go_wp2_with (go_quiet (fail))
          go_loopw [3, 5] (fun kw k2 wr => ∃ (m q : Nat) (ys : List Ln), kw = .int .i64 m ∧ k2 = .int .i64 q ∧ 1 ≤ q ∧ q ≤ n2 ∧ m < k + q ∧ Below B w wr ∧ g < wr.heap.size ∧ RowL wr g 0 ys ∧ ys.length = k + n2 ∧ ys.take m = compL (xs.take (k + q)) ∧ m ≤ (compL (xs.take (k + q))).length ∧ ys.drop (k + q - 1) = xs.drop (k + q - 1)) (fun _ k2 _ => n2 - (intOf k2).toNat)
          case atStart =>
            refine ⟨k, 1, xs, rfl, rfl, Nat.le_refl _, by omega, by omega, below_drewN HB.out _, by simpa using hgw, HRW.out.grow ((Grow.refl _).drewN _) hgw, HN.out, HST.out.symm, ?_, rfl⟩
            rw [HST.out, List.length_take, HN.out]; omega
          case round =>
            obtain ⟨m, q, ys, rfl, rfl, hq1, hq, hmq, hb2, hgw2, hrw2, hyl, htk, hml, hdr⟩ := hrel
            have HB2 := Lib.hid hb2
            have HRW2 := Lib.hid hrw2
            have HYL := Lib.hid hyl
            have HTK := Lib.hid htk
            have HML := Lib.hid hml
            have HDR := Lib.hid hdr
            clear hb2 hrw2 hyl htk hml hdr c0 c1 c2 c3 e0 e1 e2 e3
            by_cases hql : q < n2
            · obtain ⟨t, ht⟩ : ∃ t, q = t + 1 := ⟨q - 1, by omega⟩
              have hqt : (q : Int) - 1 = (t : Int) := by omega
              have qw2 : IntKind.i64.wrap ((q : Int) - 1) = (t : Int) := by rw [hqt]; exact IntWalk.i64_in _ (by omega)
              have htn : t < n2 := by omega
              have htn2 : (t : Int) < (n2 : Int) := by omega
              have hqn2 : (q : Int) < (n2 : Int) := by omega
              have ht0 : (0 : Int) ≤ (t : Int) := by omega
              have hq0 : (0 : Int) ≤ (q : Int) := by omega
              have hmn : m < k + n2 := by omega
              have hmn2 : (m : Int) < ((k + n2 : Nat) : Int) := by omega
              have hmn3 : (m : Int) < (k : Int) + (n2 : Int) := by omega
              have HT := Lib.hid ht
              clear ht
              obtain ⟨⟨op, d, a, b⟩, hy⟩ : ∃ y, xs[k + q]? = some y := ⟨_, List.getElem?_eq_getElem (by rw [HN.out]; omega)⟩
              obtain ⟨⟨op', d', a', b'⟩, hx⟩ : ∃ x, xs[k + t]? = some x := ⟨_, List.getElem?_eq_getElem (by rw [HN.out]; omega)⟩
              have hy2 : ys[k + q]? = some ⟨op, d, a, b⟩ := by
                have h := congrArg (fun l => l[1]?) HDR.out
                simp only [List.getElem?_drop] at h
                rw [show k + q - 1 + 1 = k + q by omega] at h
                rw [h]; exact hy
              have hx2 : ys[k + t]? = some ⟨op', d', a', b'⟩ := by
                have h := congrArg (fun l => l[0]?) HDR.out
                simp only [List.getElem?_drop] at h
                have := HT.out
                rw [show k + q - 1 + 0 = k + t by omega] at h
                rw [h]; exact hx
              obtain ⟨c0, c1, c2, c3⟩ := HRW2.out.atOff hy2
              obtain ⟨e0, e1, e2, e3⟩ := HRW2.out.atOff hx2
              have hsn := compL_snoc (k := k + t) (by exact hx) (by have := HT.out; rw [show k + t + 1 = k + q by omega]; exact hy)
              rw [show k + t + 2 = k + (q + 1) by have := HT.out; omega, show k + t + 1 = k + q by have := HT.out; omega] at hsn
              have HSN := Lib.hid hsn
              clear hy hx hy2 hx2 hsn
              have hdr1 : ys.drop (k + (q + 1) - 1) = xs.drop (k + (q + 1) - 1) := by
                have h := congrArg (fun l => l.drop 1) HDR.out
                simp only [List.drop_drop] at h
                rw [show k + q - 1 + 1 = k + (q + 1) - 1 by omega] at h
                exact h
              have HDR1 := Lib.hid hdr1
              clear hdr1
              by_cases hxy : (⟨op, d, a, b⟩ : Ln) = ⟨op', d', a', b'⟩
              · cases hxy
                go_wp2_with (go_quiet (fail))
                go_roundw
                case rel =>
                  refine ⟨m, q + 1, ys, rfl, by go_num, by omega, by omega, by omega, below_drewN HB2.out _, by simpa using hgw2, HRW2.out.grow ((Grow.refl _).drewN _) hgw2, HYL.out, ?_, ?_, HDR1.out⟩
                  · rw [HSN.out, if_pos rfl, List.append_nil]; exact HTK.out
                  · rw [HSN.out, if_pos rfl, List.append_nil]; exact HML.out
                case measure => simp [intOf]; omega
              · have HXY := Lib.hid hxy
                obtain ⟨⟨mop, md, ma, mb⟩, hmy⟩ : ∃ y, ys[m]? = some y := ⟨_, List.getElem?_eq_getElem (by rw [HYL.out]; exact hmn)⟩
                obtain ⟨⟨m0, m1, m2, m3⟩, ⟨z0, z1, z2, z3⟩⟩ := HRW2.out.at0 hmy
                clear hxy hmy
                by_cases gq0 : op = op'
                rotate_left
                · have tq1 : (op == op') = false := by simpa using gq0
                  have tq2 : (op != op') = true := by simpa using gq0
                  go_wp2_with (go_quiet (fail))
                  go_roundw
                  case rel =>
                    have hrs := (HRW2.out.grow ((Grow.refl _).drewN nq) hgw2).set0 (k := m) (by rw [HYL.out]; exact hmn) ⟨op, d, a, b⟩
                    refine ⟨m + 1, q + 1, ys.set m ⟨op, d, a, b⟩, by go_num, by go_num, by omega, by omega, by omega, below_storeL (i := m * 4) ⟨op, d, a, b⟩ (below_drewN HB2.out nq) hB, ?_, hrs, by rw [List.length_set]; exact HYL.out, ?_, ?_, ?_⟩
                    · simp only [World.size_setCell]; simpa using hgw2
                    · rw [HSN.out, if_neg HXY.out, ← HTK.out, List.take_add_one, List.take_set, List.getElem?_set_self (by rw [HYL.out]; exact hmn), List.set_eq_of_length_le (by simp; omega)]; rfl
                    · rw [HSN.out, if_neg HXY.out, List.length_append]; have := HML.out; simp; omega
                    · rw [List.drop_set_of_lt (by omega)]; exact HDR1.out
                  case measure => simp [intOf]; omega
                subst gq0
                by_cases gq1 : d = d'
                rotate_left
                · have tq1 : (d == d') = false := by simpa using gq1
                  have tq2 : (d != d') = true := by simpa using gq1
                  go_wp2_with (go_quiet (fail))
                  go_roundw
                  case rel =>
                    have hrs := (HRW2.out.grow ((Grow.refl _).drewN nq) hgw2).set0 (k := m) (by rw [HYL.out]; exact hmn) ⟨op, d, a, b⟩
                    refine ⟨m + 1, q + 1, ys.set m ⟨op, d, a, b⟩, by go_num, by go_num, by omega, by omega, by omega, below_storeL (i := m * 4) ⟨op, d, a, b⟩ (below_drewN HB2.out nq) hB, ?_, hrs, by rw [List.length_set]; exact HYL.out, ?_, ?_, ?_⟩
                    · simp only [World.size_setCell]; simpa using hgw2
                    · rw [HSN.out, if_neg HXY.out, ← HTK.out, List.take_add_one, List.take_set, List.getElem?_set_self (by rw [HYL.out]; exact hmn), List.set_eq_of_length_le (by simp; omega)]; rfl
                    · rw [HSN.out, if_neg HXY.out, List.length_append]; have := HML.out; simp; omega
                    · rw [List.drop_set_of_lt (by omega)]; exact HDR1.out
                  case measure => simp [intOf]; omega
                subst gq1
                by_cases gq2 : a = a'
                rotate_left
                · have tq1 : (a == a') = false := by simpa using gq2
                  have tq2 : (a != a') = true := by simpa using gq2
                  go_wp2_with (go_quiet (fail))
                  go_roundw
                  case rel =>
                    have hrs := (HRW2.out.grow ((Grow.refl _).drewN nq) hgw2).set0 (k := m) (by rw [HYL.out]; exact hmn) ⟨op, d, a, b⟩
                    refine ⟨m + 1, q + 1, ys.set m ⟨op, d, a, b⟩, by go_num, by go_num, by omega, by omega, by omega, below_storeL (i := m * 4) ⟨op, d, a, b⟩ (below_drewN HB2.out nq) hB, ?_, hrs, by rw [List.length_set]; exact HYL.out, ?_, ?_, ?_⟩
                    · simp only [World.size_setCell]; simpa using hgw2
                    · rw [HSN.out, if_neg HXY.out, ← HTK.out, List.take_add_one, List.take_set, List.getElem?_set_self (by rw [HYL.out]; exact hmn), List.set_eq_of_length_le (by simp; omega)]; rfl
                    · rw [HSN.out, if_neg HXY.out, List.length_append]; have := HML.out; simp; omega
                    · rw [List.drop_set_of_lt (by omega)]; exact HDR1.out
                  case measure => simp [intOf]; omega
                subst gq2
                by_cases gq3 : b = b'
                rotate_left
                · have tq1 : (b == b') = false := by simpa using gq3
                  have tq2 : (b != b') = true := by simpa using gq3
                  go_wp2_with (go_quiet (fail))
                  go_roundw
                  case rel =>
                    have hrs := (HRW2.out.grow ((Grow.refl _).drewN nq) hgw2).set0 (k := m) (by rw [HYL.out]; exact hmn) ⟨op, d, a, b⟩
                    refine ⟨m + 1, q + 1, ys.set m ⟨op, d, a, b⟩, by go_num, by go_num, by omega, by omega, by omega, below_storeL (i := m * 4) ⟨op, d, a, b⟩ (below_drewN HB2.out nq) hB, ?_, hrs, by rw [List.length_set]; exact HYL.out, ?_, ?_, ?_⟩
                    · simp only [World.size_setCell]; simpa using hgw2
                    · rw [HSN.out, if_neg HXY.out, ← HTK.out, List.take_add_one, List.take_set, List.getElem?_set_self (by rw [HYL.out]; exact hmn), List.set_eq_of_length_le (by simp; omega)]; rfl
                    · rw [HSN.out, if_neg HXY.out, List.length_append]; have := HML.out; simp; omega
                    · rw [List.drop_set_of_lt (by omega)]; exact HDR1.out
                  case measure => simp [intOf]; omega
                subst gq3
                exact absurd rfl HXY.out
            · have hqe : q = n2 := by omega
              subst hqe
              have hmlt : m < k + q := hmq
              have hcl : ∀ ty, (Builtin.clear_ #[23] ty #[.slice (some ⟨g, m * 4, none⟩) (k + q - m) (k + cc - m)]).run Tryz.prog wr = .ok (.tuple #[]) (wr.setCells g (m * 4) (zerosL (k + q - m))) := fun ty =>
                run_clear_lines wr ty g (m * 4) (k + q - m) (k + cc - m) (by omega) (fun t ht => (HRW2.out.isSome (by rw [HYL.out]; omega)).1) (fun t ht => (HRW2.out.isSome (by rw [HYL.out]; omega)).2)
              have hfin := HRW2.out.cleared m (k + q - m)
              rw [HTK.out] at hfin
              have hlen : m = (compL (xs.take (k + q))).length := by
                rw [← HTK.out, List.length_take, HYL.out]; omega
              have hall : compL (xs.take (k + q)) = compL xs := by rw [List.take_of_length_le (by rw [HN.out]; exact Nat.le_refl _)]
              rw [hall] at hfin hlen
              have hf := HR.out _ (below_setCells g hB _ _ _ HB2.out) (by rw [size_setCells']; exact hgw2) hfin
              rw [← hlen] at hf
              have HF := Lib.hid hf
              have hm2 : (m : Int) ≤ ((k + q : Nat) : Int) := by omega
              have hm3 : (m : Int) ≤ (k : Int) + (q : Int) := by omega
              have hm4 : m ≤ k + q := by omega
              have hm5 : m ≤ k + cc := by omega
              clear hf hfin hlen hall
              go_wp2_with fail
              exact HF.out
        · have HXY := Lib.hid hxy
          clear hxy
          by_cases gq0 : op = op'
          rotate_left
          · have tq1 : (op == op') = false := by simpa using gq0
            have tq2 : (op != op') = true := by simpa using gq0
            go_wp2_with (go_quiet (fail))
            go_roundw
            case rel =>
              refine ⟨k + 1, by omega, by omega, by go_num, below_drewN HB.out _, by simpa using hgw, HRW.out.grow ((Grow.refl _).drewN _) hgw, fun i x y hi hx hy => ?_⟩
              by_cases e : i = j
              · subst e
                rw [HX.out] at hx
                rw [← HJ.out, HY.out] at hy
                cases hx
                cases hy
                exact HXY.out
              · exact HNO.out i x y (by have := HJ.out; omega) hx hy
            case measure => simp [intOf]; omega
          subst gq0
          by_cases gq1 : d = d'
          rotate_left
          · have tq1 : (d == d') = false := by simpa using gq1
            have tq2 : (d != d') = true := by simpa using gq1
            go_wp2_with (go_quiet (fail))
            go_roundw
            case rel =>
              refine ⟨k + 1, by omega, by omega, by go_num, below_drewN HB.out _, by simpa using hgw, HRW.out.grow ((Grow.refl _).drewN _) hgw, fun i x y hi hx hy => ?_⟩
              by_cases e : i = j
              · subst e
                rw [HX.out] at hx
                rw [← HJ.out, HY.out] at hy
                cases hx
                cases hy
                exact HXY.out
              · exact HNO.out i x y (by have := HJ.out; omega) hx hy
            case measure => simp [intOf]; omega
          subst gq1
          by_cases gq2 : a = a'
          rotate_left
          · have tq1 : (a == a') = false := by simpa using gq2
            have tq2 : (a != a') = true := by simpa using gq2
            go_wp2_with (go_quiet (fail))
            go_roundw
            case rel =>
              refine ⟨k + 1, by omega, by omega, by go_num, below_drewN HB.out _, by simpa using hgw, HRW.out.grow ((Grow.refl _).drewN _) hgw, fun i x y hi hx hy => ?_⟩
              by_cases e : i = j
              · subst e
                rw [HX.out] at hx
                rw [← HJ.out, HY.out] at hy
                cases hx
                cases hy
                exact HXY.out
              · exact HNO.out i x y (by have := HJ.out; omega) hx hy
            case measure => simp [intOf]; omega
          subst gq2
          by_cases gq3 : b = b'
          rotate_left
          · have tq1 : (b == b') = false := by simpa using gq3
            have tq2 : (b != b') = true := by simpa using gq3
            go_wp2_with (go_quiet (fail))
            go_roundw
            case rel =>
              refine ⟨k + 1, by omega, by omega, by go_num, below_drewN HB.out _, by simpa using hgw, HRW.out.grow ((Grow.refl _).drewN _) hgw, fun i x y hi hx hy => ?_⟩
              by_cases e : i = j
              · subst e
                rw [HX.out] at hx
                rw [← HJ.out, HY.out] at hy
                cases hx
                cases hy
                exact HXY.out
              · exact HNO.out i x y (by have := HJ.out; omega) hx hy
            case measure => simp [intOf]; omega
          subst gq3
          exact absurd rfl HXY.out
      · have hke : k = n := by omega
        have hc : compL xs = xs := by
          have := compL_take_same (xs := xs) k (by rw [HN.out]; omega) (fun j x y hj hx hy => HNO.out j x y hj hx hy)
          rwa [List.take_of_length_le (by rw [HN.out]; omega)] at this
        have hf := HR.out wr HB.out hgw (by rw [hc]; exact HRW.out)
        rw [hc, HN.out] at hf
        have HF := Lib.hid hf
        clear hf hc
        subst hke
        go_wp2_with fail
        exact HF.out
end Go.Proofs.YtfbfkkaepgcggaaGreat

namespace Go.Proofs.YtfbfkkaepgcggaaGreat
open Go.RowKit

def prL (but x : Ln) : Bool := decide (x = but) || !x.ok
/-- The block of the line that is left out. -/
def ButAt (w : World) (cb : Nat) (but : Ln) : Prop := w.heap[cb]? = some (.cells #[.int .i64 but.op, .int .i64 but.d, .int .i64 but.a, .int .i64 but.b] 44 (0, 0))
theorem ButAt.grow {w w' : World} {cb : Nat} {but : Ln} (h : ButAt w cb but) (g : Grow w w') : ButAt w' cb but := g.blk h
theorem ButAt.store {w : World} {cb g p : Nat} {but : Ln} (h : ButAt w cb but) (hne : cb ≠ g) (l : Ln) : ButAt (storeL w g p l) cb but := (heap_storeL w g p cb l hne).trans h
theorem prF_any (x but : Ln) (cb : Nat) (w : World) (hb : ButAt w cb but) (R : Ending → World → Prop) (hR : ∀ w', Grow w w' → R (.returned (.bool (prL but x))) w') :
    Calls Tryz.prog 91 #[.agg #[.int .i64 x.op, .int .i64 x.d, .int .i64 x.a, .int .i64 x.b], .pointer (some ⟨cb, 0, none⟩)] w R :=
  validF_any x.op x.d x.a x.b but.op but.d but.a but.b cb w hb R hR

theorem none_take_succ {xs : List Ln} {f : Ln → Bool} {k : Nat} {x : Ln} (h : ∀ l ∈ xs.take k, f l = false) (hx : xs[k]? = some x) (hf : f x = false) : ∀ l ∈ xs.take (k + 1), f l = false := by
  intro l hl
  rw [List.take_add_one, hx] at hl
  rcases List.mem_append.1 hl with hl | hl
  · exact h l hl
  · simp at hl; subst hl; exact hf

set_option maxRecDepth 100000 in
set_option maxHeartbeats 4000000 in
theorem indexF_any (xs : List Ln) (but : Ln) (g n cap cb : Nat) (w : World) (hn : xs.length = n) (hnm : n ≤ 9223372036854775807) (hrow : RowL w g 0 xs) (hg : g < w.heap.size) (hbut : ButAt w cb but) (R : Ending → World → Prop)
    (hR1 : ∀ w' k x, Grow w w' → xs[k]? = some x → prL but x = true → (∀ y ∈ xs.take k, prL but y = false) → R (.returned (.int .i64 (k : Int))) w')
    (hR2 : ∀ w', Grow w w' → (∀ y ∈ xs, prL but y = false) → R (.returned (.int .i64 (-1))) w') :
    Calls Tryz.prog 105 #[.slice (some ⟨g, 0, none⟩) n cap, .func (.func 91) #[] #[.pointer (some ⟨cb, 0, none⟩)]] w R := by
  have HN := Lib.hid hn
  have HROW := Lib.hid hrow
  have HR1 := Lib.hid hR1
  have HR2 := Lib.hid hR2
  have HBUT := Lib.hid hbut
  have eg := enters_of Tryz.func91 (by kernel_rfl) rfl
  clear hn hrow hR1 hR2 hbut
  go_enter Tryz.func105, Tryz.ntmps105
  go_wp2_with fail
  go_loopw [8] (fun i wr => ∃ k : Nat, k ≤ n ∧ i = .int .i64 k ∧ Grow w wr ∧ ∀ y ∈ xs.take k, prL but y = false) (fun i _ => n - (intOf i).toNat)
  case atStart => exact ⟨0, Nat.zero_le _, rfl, Grow.refl _, by simp⟩
  case round =>
    obtain ⟨k, hk, rfl, hgr, hno⟩ := hrel
    have HG := Lib.hid hgr
    have HNO := Lib.hid hno
    have hz := hgr.sz
    clear hgr hno
    by_cases hlt : k < n
    · obtain ⟨x, hx⟩ : ∃ x, xs[k]? = some x := ⟨_, List.getElem?_eq_getElem (by rw [HN.out]; exact hlt)⟩
      obtain ⟨⟨c0, c1, c2, c3⟩, _⟩ := (HROW.out.grow HG.out hg).at0 (k := k) (op := x.op) (d := x.d) (a := x.a) (b := x.b) hx
      have hgw : g < wr.heap.size := by omega
      have hkn : (k : Int) < (n : Int) := by omega
      have HX := Lib.hid hx
      clear hx
      cases hp : prL but x with
      | true =>
        have HP := Lib.hid hp
        clear hp
        go_wp2_with fail
        refine prF_any x but cb _ (HBUT.out.grow HG.out) _ ?_
        intro w1 hg1
        rw [HP.out]
        have HF := Lib.hid (HR1.out w1 k x (HG.out.trans hg1) HX.out HP.out HNO.out)
        clear hg1
        go_wp2_with fail
        exact HF.out
      | false =>
        have HP := Lib.hid hp
        clear hp
        go_wp2_with fail
        refine prF_any x but cb _ (HBUT.out.grow HG.out) _ ?_
        intro w1 hg1
        rw [HP.out]
        have HG1 := Lib.hid (HG.out.trans hg1)
        clear hg1
        go_wp2_with fail
        go_roundw
        case rel => exact ⟨k + 1, by omega, by go_num, HG1.out, none_take_succ HNO.out HX.out HP.out⟩
        case measure => simp [intOf]; omega
    · have HF := Lib.hid (HR2.out wr HG.out (fun y hy => HNO.out y (by rw [List.take_of_length_le (by rw [HN.out]; omega)]; exact hy)))
      go_wp2_with fail
      exact HF.out

theorem keepL_all {pr : Ln → Bool} {xs : List Ln} (h : ∀ y ∈ xs, pr y = false) : keepL pr xs = xs := by
  unfold keepL
  rw [List.filter_eq_self]
  intro y hy
  rw [h y hy]; rfl

set_option maxRecDepth 100000 in
set_option maxHeartbeats 8000000 in
theorem deleteF_any (xs : List Ln) (but : Ln) (g n cap cb B : Nat) (w : World) (hn : xs.length = n) (hcap : n ≤ cap) (hm : cap ≤ 9223372036854775807) (hrow : RowL w g 0 xs) (hg : g < w.heap.size) (hB : B ≤ g) (hbut : ButAt w cb but) (hne : cb ≠ g) (R : Ending → World → Prop)
    (hR : ∀ w', Below B w w' → g < w'.heap.size → RowL w' g 0 (keepL (prL but) xs) → R (.returned (.slice (some ⟨g, 0, none⟩) (keepL (prL but) xs).length cap)) w') :
    Calls Tryz.prog 90 #[.slice (some ⟨g, 0, none⟩) n cap, .func (.func 91) #[] #[.pointer (some ⟨cb, 0, none⟩)]] w R := by
  have HN := Lib.hid hn
  have HROW := Lib.hid hrow
  have HR := Lib.hid hR
  have HBUT := Lib.hid hbut
  have eg := enters_of Tryz.func91 (by kernel_rfl) rfl
  clear hn hrow hR hbut
  go_enter Tryz.func90, Tryz.ntmps90
  go_wp2_with fail
  refine indexF_any xs but g n cap cb _ HN.out (by omega) HROW.out hg HBUT.out _ ?_ ?_
  · intro w1 k x hg1 hx hp hno
    have hkn : k < n := by rw [← HN.out]; exact (List.getElem?_eq_some_iff.1 hx).1
    have hst : keepL (prL but) (xs.take (k + 1)) = xs.take k := by
      rw [keepL_snoc hx, hp, if_pos rfl, List.append_nil]; exact keepL_all hno
    have HST := Lib.hid hst
    have HG1 := Lib.hid hg1
    have hgw1 : g < w1.heap.size := by have := hg1.sz; omega
    have t1 : ((k : Int) == -1) = false := by simp
    have t2 : ((k : Int) != -1) = true := by simp
    clear hx hp hno hst hg1
    go_wp2_with fail
    go_loopw [5, 6] (fun iv jv wr => ∃ (m q : Nat) (ys : List Ln), iv = .int .i64 m ∧ jv = .int .i64 q ∧ q ≤ n ∧ m < q ∧ Below B w wr ∧ g < wr.heap.size ∧ ButAt wr cb but ∧ RowL wr g 0 ys ∧ ys.length = n ∧ ys.take m = keepL (prL but) (xs.take q) ∧ m ≤ (keepL (prL but) (xs.take q)).length ∧ ys.drop q = xs.drop q) (fun _ jv _ => n - (intOf jv).toNat)
    case atStart =>
      refine ⟨k, k + 1, xs, rfl, by go_num, by omega, by omega, HG1.out.below (by omega), hgw1, HBUT.out.grow HG1.out, HROW.out.grow HG1.out hg, HN.out, HST.out.symm, ?_, rfl⟩
      rw [HST.out, List.length_take, HN.out]; omega
    case round =>
      obtain ⟨m, q, ys, rfl, rfl, hq, hmq, hb2, hgw2, hbu, hrw2, hyl, htk, hml, hdr⟩ := hrel
      have HB2 := Lib.hid hb2
      have HBU := Lib.hid hbu
      have HRW2 := Lib.hid hrw2
      have HYL := Lib.hid hyl
      have HTK := Lib.hid htk
      have HML := Lib.hid hml
      have HDR := Lib.hid hdr
      clear hb2 hbu hrw2 hyl htk hml hdr t1 t2
      by_cases hql : q < n
      · have hqn : (q : Int) < (n : Int) := by omega
        have hmn : m < n := by omega
        have hmn2 : (m : Int) < (n : Int) := by omega
        obtain ⟨x, hx⟩ : ∃ x, xs[q]? = some x := ⟨_, List.getElem?_eq_getElem (by rw [HN.out]; exact hql)⟩
        have hy2 : ys[q]? = some x := by
          have h := congrArg (fun l => l[0]?) HDR.out
          simp only [List.getElem?_drop, Nat.add_zero] at h
          rw [h]; exact hx
        obtain ⟨⟨c0, c1, c2, c3⟩, _⟩ := HRW2.out.at0 (k := q) (op := x.op) (d := x.d) (a := x.a) (b := x.b) hy2
        have hsn := keepL_snoc (pr := prL but) hx
        have HSN := Lib.hid hsn
        have hdr1 : ys.drop (q + 1) = xs.drop (q + 1) := by
          have h := congrArg (fun l => l.drop 1) HDR.out
          simp only [List.drop_drop] at h
          exact h
        have HDR1 := Lib.hid hdr1
        clear hx hy2 hsn hdr1
        cases hp : prL but x with
        | true =>
          have HP := Lib.hid hp
          clear hp
          go_wp2_with fail
          refine prF_any x but cb _ (HBU.out.grow ((Grow.refl _).alloc _)) _ ?_
          intro w2 hg2
          rw [HP.out]
          have HG2 := Lib.hid (((Grow.refl wr).alloc _).trans hg2)
          clear hg2
          go_wp2_with fail
          go_roundw
          case rel =>
            refine ⟨m, q + 1, ys, rfl, by go_num, by omega, by omega, Below.of_grow HB2.out HG2.out (by omega), by have := HG2.out.sz; omega, HBU.out.grow HG2.out, HRW2.out.grow HG2.out hgw2, HYL.out, ?_, ?_, HDR1.out⟩
            · rw [HSN.out, HP.out, if_pos rfl, List.append_nil]; exact HTK.out
            · rw [HSN.out, HP.out, if_pos rfl, List.append_nil]; exact HML.out
          case measure => simp [intOf]; omega
        | false =>
          have HP := Lib.hid hp
          clear hp
          go_wp2_with fail
          refine prF_any x but cb _ (HBU.out.grow ((Grow.refl _).alloc _)) _ ?_
          intro w2 hg2
          rw [HP.out]
          have hbx := hg2.blk (heap_alloc_new wr (.cells #[.int .i64 x.op, .int .i64 x.d, .int .i64 x.a, .int .i64 x.b] 44))
          obtain ⟨b0, b1, b2, b3⟩ := box4 hbx
          have hzb := lt_of_block hbx
          have HG2 := Lib.hid (((Grow.refl wr).alloc _).trans hg2)
          have hrw3 := HRW2.out.grow HG2.out hgw2
          have hgw3 : g < w2.heap.size := by have := HG2.out.sz; omega
          obtain ⟨⟨mop, md, ma, mb⟩, hmy⟩ : ∃ y, ys[m]? = some y := ⟨_, List.getElem?_eq_getElem (by rw [HYL.out]; exact hmn)⟩
          obtain ⟨⟨m0, m1, m2, m3⟩, ⟨z0, z1, z2, z3⟩⟩ := hrw3.at0 hmy
          have HRW3 := Lib.hid hrw3
          have hne2 : wr.heap.size ≠ g := by omega
          have hne3 : g ≠ wr.heap.size := by omega
          clear hg2 hbx hrw3 hmy
          go_wp2_with fail
          go_roundw
          case rel =>
            have hrs := HRW3.out.set0 (k := m) (by rw [HYL.out]; exact hmn) x
            refine ⟨m + 1, q + 1, ys.set m x, by go_num, by go_num, by omega, by omega, below_storeL (i := m * 4) x (Below.of_grow HB2.out HG2.out (by omega)) hB, ?_, (HBU.out.grow HG2.out).store (p := m * 4) hne x, hrs, by rw [List.length_set]; exact HYL.out, ?_, ?_, ?_⟩
            · simp only [World.size_setCell]; exact hgw3
            · rw [HSN.out, HP.out, if_neg (by simp), ← HTK.out, List.take_add_one, List.take_set, List.getElem?_set_self (by rw [HYL.out]; exact hmn), List.set_eq_of_length_le (by simp; omega)]; rfl
            · rw [HSN.out, HP.out, if_neg (by simp), List.length_append]; have := HML.out; simp; omega
            · rw [List.drop_set_of_lt (by omega)]; exact HDR1.out
          case measure => simp [intOf]; omega
      · have hqe : q = n := by omega
        subst hqe
        have hcl : ∀ ty, (Builtin.clear_ #[23] ty #[.slice (some ⟨g, m * 4, none⟩) (q - m) (cap - m)]).run Tryz.prog wr = .ok (.tuple #[]) (wr.setCells g (m * 4) (zerosL (q - m))) := fun ty =>
          run_clear_lines wr ty g (m * 4) (q - m) (cap - m) (by omega) (fun t ht => (HRW2.out.isSome (by rw [HYL.out]; omega)).1) (fun t ht => (HRW2.out.isSome (by rw [HYL.out]; omega)).2)
        have hfin := HRW2.out.cleared m (q - m)
        rw [HTK.out] at hfin
        have hlen : m = (keepL (prL but) (xs.take q)).length := by
          rw [← HTK.out, List.length_take, HYL.out]; omega
        have hall : keepL (prL but) (xs.take q) = keepL (prL but) xs := by rw [List.take_of_length_le (by rw [HN.out]; exact Nat.le_refl _)]
        rw [hall] at hfin hlen
        have hf := HR.out _ (below_setCells g hB _ _ _ HB2.out) (by rw [size_setCells']; exact hgw2) hfin
        rw [← hlen] at hf
        have HF := Lib.hid hf
        have hm2 : (m : Int) ≤ (q : Int) := by omega
        have hm4 : m ≤ q := by omega
        have hm5 : m ≤ cap := by omega
        clear hf hfin hlen hall
        go_wp2_with fail
        exact HF.out
  · intro w1 hg1 hno
    have hk := keepL_all hno
    have hf := HR.out w1 (hg1.below (by omega)) (by have := hg1.sz; omega) (by rw [hk]; exact HROW.out.grow hg1 hg)
    rw [hk, HN.out] at hf
    have HF := Lib.hid hf
    clear hf hk hno hg1
    go_wp2_with fail
    exact HF.out
end Go.Proofs.YtfbfkkaepgcggaaGreat
