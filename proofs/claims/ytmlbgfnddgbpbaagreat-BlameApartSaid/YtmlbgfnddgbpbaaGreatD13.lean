/- The walks of the library's Index, Contains, IndexFunc and DeleteFunc on numbers. -/
import Derived.Test.YtmlbgfnddgbpbaaGreatD03
import Derived.Test.YtmlbgfnddgbpbaaGreatD00
import Derived.StillTailTactics
import Derived.RegionTactic
import Derived.BigRegion
import Derived.Deep.QuietTactic
import Derived.BigQuiet
namespace Go.Proofs.YtmlbgfnddgbpbaaGreat
open Go.RowKit

theorem below_setCells {B : Nat} {a : World} (g : Nat) (hB : B ≤ g) : ∀ (vs : List Value) (o : Nat) (w : World), Below B a w → Below B a (w.setCells g o vs)
  | [], _, _, h => h
  | _ :: r, o, _, h => below_setCells g hB r (o + 1) _ (Below.setCell h hB _)
theorem size_setCells' (g : Nat) : ∀ (vs : List Value) (o : Nat) (w : World), (w.setCells g o vs).heap.size = w.heap.size
  | [], _, _ => rfl
  | _ :: r, _, _ => by rw [World.setCells, size_setCells' g r, World.size_setCell]
set_option maxHeartbeats 4000000 in
theorem indexI_any (xs : List Int) (x : Int) (v : Value) (w : World) (hv : IntsAt w v xs) (R : Ending → World → Prop)
    (hR1 : ∀ (k : Nat), xs.contains x = true → R (.returned (.int .i64 (k : Int))) w) (hR2 : xs.contains x = false → R (.returned (.int .i64 (-1))) w) :
    Calls Tryz.prog 156 #[v, .int .i64 x] w R := by
  have HV := Lib.hid hv
  obtain ⟨va, vc, rfl, v1, v2, _⟩ := hv
  have HR1 := Lib.hid hR1
  have HR2 := Lib.hid hR2
  have hm : xs.length ≤ 9223372036854775807 := by omega
  clear hR1 hR2
  go_enter Tryz.func156, Tryz.ntmps156
  go_wp2_with fail
  go_loopw [5, 8] (fun _ i wr => ∃ k : Nat, k ≤ xs.length ∧ i = .int .i64 k ∧ wr = w ∧ ∀ y ∈ xs.take k, (x == y) = false) (fun _ i _ => xs.length - (intOf i).toNat)
  case atStart => exact ⟨0, Nat.zero_le _, rfl, rfl, by simp⟩
  case round =>
    obtain ⟨k, hk, rfl, rfl, hno⟩ := hrel
    have HNO := Lib.hid hno
    clear hno
    by_cases hlt : k < xs.length
    · obtain ⟨y, hy⟩ : ∃ y, xs[k]? = some y := ⟨_, List.getElem?_eq_getElem hlt⟩
      obtain ⟨b, o, rfl, hb, e0⟩ := ints_at HV.out hy
      have hk2 : (k : Int) < (xs.length : Int) := by omega
      have HY := Lib.hid hy
      clear hy
      cases hxy : (x == y) with
      | true =>
        have HF := Lib.hid (HR1.out k (by rw [List.contains_iff_mem]; have := beq_iff_eq.1 hxy; subst this; exact List.mem_of_getElem? HY.out))
        go_wp2_with fail
        exact HF.out
      | false =>
        have HX := Lib.hid hxy
        go_wp2_with fail
        go_roundw
        case rel =>
          refine ⟨k + 1, by omega, by go_num, by first | trivial | rfl, fun z hz => ?_⟩
          rw [List.take_add_one, HY.out] at hz
          rcases List.mem_append.1 hz with hz | hz
          · exact HNO.out z hz
          · simp at hz; subst hz; exact HX.out
        case measure => simp [intOf]; omega
    · have hc : xs.contains x = false := by
        rw [← Bool.not_eq_true, List.contains_iff_mem]
        intro h
        have := HNO.out x (by rw [List.take_of_length_le (by omega)]; exact h)
        simp at this
      have HF := Lib.hid (HR2.out hc)
      clear hc
      go_wp2_with fail
      exact HF.out
set_option maxHeartbeats 1000000 in
theorem containsI_any (xs : List Int) (x : Int) (v : Value) (w : World) (hv : IntsAt w v xs) (R : Ending → World → Prop) (hR : R (.returned (.bool (xs.contains x))) w) :
    Calls Tryz.prog 117 #[v, .int .i64 x] w R := by
  have HR := Lib.hid hR
  have HV := Lib.hid hv
  obtain ⟨va, vc, rfl, v1, v2, _⟩ := hv
  clear hR
  go_enter Tryz.func117, Tryz.ntmps117
  go_wp2_with fail
  refine indexI_any xs x _ _ HV.out _ ?_ ?_
  · intro k hc
    have HF := HR.out
    rw [hc] at HF
    have HF2 := Lib.hid HF
    have hk : (k : Int) ≥ 0 := by omega
    clear HF HR
    go_wp2_with fail
    exact HF2.out
  · intro hc
    have HF := HR.out
    rw [hc] at HF
    have HF2 := Lib.hid HF
    clear HF HR
    go_wp2_with fail
    exact HF2.out

/-- The block g holds numbers, and they can be written. -/
def RowI (w : World) (g : Nat) (xs : List Int) : Prop := ∀ (j : Nat) (x : Int), xs[j]? = some x → w.cell? ⟨g, j, none⟩ = some (.int .i64 x) ∧ w.frozen? ⟨g, j, none⟩ = false
theorem RowI.grow {w w' : World} {g : Nat} {xs : List Int} (h : RowI w g xs) (hg : Grow w w') (hb : g < w.heap.size) : RowI w' g xs := fun j x hj => ⟨hg.cell (h j x hj).1, (hg.cellsB.2 g _ hb).trans (h j x hj).2⟩
theorem RowI.of_own {w : World} {base : Nat} {e : TypeId} {g n cap : Nat} {xs : List Int} (h : w.ownsRow base e 1 (.slice (some ⟨g, 0, none⟩) n cap) xs.length (xs.flatMap encI)) : RowI w g xs := by
  intro j x hj
  obtain ⟨_, _, e1, _, _, h4⟩ := slc_of_owns encI_len h
  cases e1
  rcases h4 with ⟨h4, _⟩ | ⟨b, o, e2, _, hc⟩
  · rw [h4] at hj; simp at hj
  · cases e2
    refine ⟨by have := hc j x hj 0 _ rfl; simpa using this, ?_⟩
    exact ownsRow_free h _
theorem RowI.set {w : World} {g : Nat} {xs : List Int} (h : RowI w g xs) {k : Nat} (hk : k < xs.length) (x : Int) : RowI (w.setCell ⟨g, k, none⟩ (.int .i64 x)) g (xs.set k x) := by
  intro j y hj
  rw [World.frozen?_setCell]
  by_cases e : j = k
  · subst e
    rw [List.getElem?_set_self hk] at hj
    cases hj
    obtain ⟨h1, h2⟩ := h j _ (List.getElem?_eq_getElem hk)
    exact ⟨World.cell?_setCell_same (h := h1) .., h2⟩
  · rw [List.getElem?_set_ne (fun e2 => e e2.symm)] at hj
    obtain ⟨h1, h2⟩ := h j y hj
    exact ⟨(World.cell?_setCell_other (h := by intro e3; cases e3; exact e rfl) ..).trans h1, h2⟩
theorem RowI.ints {w : World} {g c : Nat} {xs : List Int} (h : RowI w g xs) (hb : g < w.heap.size) (hc : xs.length ≤ c) (hm : c ≤ 9223372036854775807) : IntsAt w (.slice (some ⟨g, 0, none⟩) xs.length c) xs := by
  refine ⟨_, c, rfl, hc, hm, .inr ⟨g, 0, rfl, hb, fun j x hx i u hu => ?_⟩⟩
  have hi : i = 0 := by
    have := (List.getElem?_eq_some_iff.1 hu).1
    simp [encI] at this; exact this
  subst hi
  simp [encI] at hu
  subst hu
  simpa using (h j x hx).1
def zerosI (n : Nat) : List Value := (Builtin.zeroCells (Value.int .i64 0).cells n).toList
theorem zerosI_length (n : Nat) : (zerosI n).length = n := by
  unfold zerosI; rw [Array.length_toList, size_zeroCells]; simp [Value.cells]
theorem zerosI_one (n : Nat) : ∀ v ∈ zerosI n, v.oneCell' = true := by
  intro v hv
  unfold zerosI Builtin.zeroCells at hv
  rw [Array.toList_map, List.mem_map] at hv
  obtain ⟨i, _, rfl⟩ := hv
  have h1 : (Value.int .i64 0).cells.size = 1 := rfl
  rw [h1, Nat.mod_one]
  rfl
theorem run_clear_ints (w : World) (ty g o n c : Nat) (hn : 0 < n) (hc : ∀ j, j < n → (w.cell? ⟨g, o + j, none⟩).isSome = true) (hf : ∀ j, j < n → w.frozen? ⟨g, o + j, none⟩ = false) :
    (Builtin.clear_ #[29] ty #[.slice (some ⟨g, o, none⟩) n c]).run Tryz.prog w = .ok (.tuple #[]) (w.setCells g o (zerosI n)) := by
  have hst := run_storeCells_cells (P := Tryz.prog) g o (zerosI n) 0 w (by rw [zerosI_length]; simpa using hc) (by rw [zerosI_length]; simpa using hf) (zerosI_one n)
  simp only [Nat.add_zero] at hst
  obtain ⟨m, rfl⟩ : ∃ m, n = m + 1 := ⟨n - 1, by omega⟩
  unfold zerosI at hst ⊢
  simp [Builtin.clear_, run_underlying Tryz.underlying29, hst]
theorem RowI.cleared {w : World} {g : Nat} {ys : List Int} (h : RowI w g ys) (k n : Nat) : RowI (w.setCells g k (zerosI n)) g (ys.take k) := by
  intro j x hj
  rw [List.getElem?_take] at hj
  split at hj
  · next hjk =>
    obtain ⟨h1, h2⟩ := h j x hj
    rw [World.frozen?_setCells, World.cell?_setCells_out g (zerosI n) k w ⟨g, j, none⟩ (fun _ _ => .inl (by dsimp only; omega))]
    exact ⟨h1, h2⟩
  · cases hj
theorem RowI.isSome {w : World} {g : Nat} {ys : List Int} (h : RowI w g ys) {t : Nat} (ht : t < ys.length) : (w.cell? ⟨g, t, none⟩).isSome = true ∧ w.frozen? ⟨g, t, none⟩ = false := by
  obtain ⟨h1, h2⟩ := h t _ (List.getElem?_eq_getElem ht)
  exact ⟨by rw [h1]; rfl, h2⟩
def keepI (pr : Int → Bool) (xs : List Int) : List Int := xs.filter fun x => !pr x
theorem keepI_snoc {pr : Int → Bool} {xs : List Int} {k : Nat} {x : Int} (hx : xs[k]? = some x) : keepI pr (xs.take (k + 1)) = keepI pr (xs.take k) ++ (if pr x then [] else [x]) := by
  rw [List.take_add_one, hx]
  unfold keepI
  rw [List.filter_append]
  cases h : pr x <;> simp [h]
theorem keepI_all {pr : Int → Bool} {xs : List Int} (h : ∀ y ∈ xs, pr y = false) : keepI pr xs = xs := by
  unfold keepI
  rw [List.filter_eq_self]
  intro y hy
  rw [h y hy]; rfl
/-- A function value that answers pr on numbers, as long as Inv holds. -/
def PredW (g : Nat) (cb : Array Value) (pr : Int → Bool) (Inv : World → Prop) : Prop :=
  ∀ (x : Int) (W : World), Inv W → ∀ R : Ending → World → Prop, (∀ W', Grow W W' → R (.returned (.bool (pr x))) W') → Calls Tryz.prog g (#[.int .i64 x] ++ cb) W R

set_option maxHeartbeats 4000000 in
theorem indexFI_any (f : Nat) (cb : Array Value) (eg : Enters Tryz.prog f) (pr : Int → Bool) (Inv : World → Prop) (hI : ∀ W W', Inv W → Grow W W' → Inv W') (hp : PredW f cb pr Inv) (xs : List Int) (v : Value) (w : World) (hv : IntsAt w v xs) (hi : Inv w) (R : Ending → World → Prop)
    (hR1 : ∀ w' (k : Nat) x, Grow w w' → xs[k]? = some x → pr x = true → (∀ y ∈ xs.take k, pr y = false) → R (.returned (.int .i64 (k : Int))) w')
    (hR2 : ∀ w', Grow w w' → (∀ y ∈ xs, pr y = false) → R (.returned (.int .i64 (-1))) w') :
    Calls Tryz.prog 114 #[v, .func (.func f) #[] cb] w R := by
  have HV := Lib.hid hv
  have HI := Lib.hid hI
  have HP := Lib.hid hp
  have HI0 := Lib.hid hi
  have HR1 := Lib.hid hR1
  have HR2 := Lib.hid hR2
  obtain ⟨va, vc, rfl, v1, v2, _⟩ := hv
  have hm : xs.length ≤ 9223372036854775807 := by omega
  unfold Enters at eg
  clear hR1 hR2 hI hp hi
  go_enter Tryz.func114, Tryz.ntmps114
  go_wp2_with fail
  go_loopw [5, 8] (fun _ i wr => ∃ k : Nat, k ≤ xs.length ∧ i = .int .i64 k ∧ Grow w wr ∧ ∀ y ∈ xs.take k, pr y = false) (fun _ i _ => xs.length - (intOf i).toNat)
  case atStart => exact ⟨0, Nat.zero_le _, rfl, Grow.refl _, by simp⟩
  case round =>
    obtain ⟨k, hk, rfl, hg, hno⟩ := hrel
    have HG := Lib.hid hg
    have HNO := Lib.hid hno
    clear hg hno
    by_cases hlt : k < xs.length
    · obtain ⟨y, hy⟩ : ∃ y, xs[k]? = some y := ⟨_, List.getElem?_eq_getElem hlt⟩
      obtain ⟨b, o, rfl, hb, e0⟩ := ints_at (HV.out.grow HG.out) hy
      have hk2 : (k : Int) < (xs.length : Int) := by omega
      have HY := Lib.hid hy
      clear hy
      cases hpy : pr y with
      | true =>
        have HPY := Lib.hid hpy
        clear hpy
        go_wp2_with fail
        refine HP.out y _ (HI.out _ _ HI0.out HG.out) _ ?_
        intro w1 hg1
        rw [HPY.out]
        have HF := Lib.hid (HR1.out w1 k y (HG.out.trans hg1) HY.out HPY.out HNO.out)
        clear hg1
        go_wp2_with fail
        exact HF.out
      | false =>
        have HPY := Lib.hid hpy
        clear hpy
        go_wp2_with fail
        refine HP.out y _ (HI.out _ _ HI0.out HG.out) _ ?_
        intro w1 hg1
        rw [HPY.out]
        have HG1 := Lib.hid (HG.out.trans hg1)
        clear hg1
        go_wp2_with fail
        go_roundw
        case rel =>
          refine ⟨k + 1, by omega, by go_num, HG1.out, fun z hz => ?_⟩
          rw [List.take_add_one, HY.out] at hz
          rcases List.mem_append.1 hz with hz | hz
          · exact HNO.out z hz
          · simp at hz; subst hz; exact HPY.out
        case measure => simp [intOf]; omega
    · have HF := Lib.hid (HR2.out wr HG.out (fun y hy => HNO.out y (by rw [List.take_of_length_le (by omega)]; exact hy)))
      go_wp2_with fail
      exact HF.out

set_option maxRecDepth 100000 in
set_option maxHeartbeats 8000000 in
theorem deleteFI_any (f : Nat) (cb : Array Value) (eg : Enters Tryz.prog f) (pr : Int → Bool) (Inv : World → Prop) (hI : ∀ W W', Inv W → Grow W W' → Inv W') (hp : PredW f cb pr Inv) (xs : List Int) (g n cap B : Nat) (hS : ∀ W k v, Inv W → Inv (W.setCell ⟨g, k, none⟩ v)) (w : World) (hn : xs.length = n) (hcap : n ≤ cap) (hm : cap ≤ 9223372036854775807) (hrow : RowI w g xs) (hg : g < w.heap.size) (hB : B ≤ g) (hi : Inv w) (R : Ending → World → Prop)
    (hR : ∀ w', Below B w w' → g < w'.heap.size → RowI w' g (keepI pr xs) → R (.returned (.slice (some ⟨g, 0, none⟩) (keepI pr xs).length cap)) w') :
    Calls Tryz.prog 97 #[.slice (some ⟨g, 0, none⟩) n cap, .func (.func f) #[] cb] w R := by
  have HN := Lib.hid hn
  have HROW := Lib.hid hrow
  have HR := Lib.hid hR
  have HI := Lib.hid hI
  have HS := Lib.hid hS
  have HP := Lib.hid hp
  have HI0 := Lib.hid hi
  have hv := hrow.ints hg (by rw [hn]; exact hcap) hm
  rw [hn] at hv
  have HV := Lib.hid hv
  have EG := Lib.hid eg
  unfold Enters at eg
  clear hn hrow hR hI hS hp hi hv
  go_enter Tryz.func97, Tryz.ntmps97
  go_wp2_with fail
  refine indexFI_any f cb EG.out pr Inv HI.out HP.out xs _ _ HV.out HI0.out _ ?_ ?_
  · intro w1 k x hg1 hx hpx hno
    have hkn : k < n := by rw [← HN.out]; exact (List.getElem?_eq_some_iff.1 hx).1
    have hst : keepI pr (xs.take (k + 1)) = xs.take k := by
      rw [keepI_snoc hx, hpx, if_pos rfl, List.append_nil]; exact keepI_all hno
    have HST := Lib.hid hst
    have HG1 := Lib.hid hg1
    have hgw1 : g < w1.heap.size := by have := hg1.sz; omega
    have t1 : ((k : Int) == -1) = false := by simp
    have t2 : ((k : Int) != -1) = true := by simp
    clear hx hpx hno hst hg1
    go_wp2_with fail
    go_loopw [5, 6, 7] (fun iv jv _ wr => ∃ (m q : Nat) (ys : List Int), iv = .int .i64 m ∧ jv = .int .i64 q ∧ q ≤ n ∧ m < q ∧ Below B w wr ∧ g < wr.heap.size ∧ Inv wr ∧ RowI wr g ys ∧ ys.length = n ∧ ys.take m = keepI pr (xs.take q) ∧ (keepI pr (xs.take q)).length = m ∧ ys.drop q = xs.drop q) (fun _ jv _ _ => n - (intOf jv).toNat)
    case atStart =>
      refine ⟨k, k + 1, xs, rfl, by go_num, by omega, by omega, HG1.out.below (by omega), hgw1, HI.out _ _ HI0.out HG1.out, HROW.out.grow HG1.out hg, HN.out, HST.out.symm, ?_, rfl⟩
      rw [HST.out, List.length_take, HN.out]; omega
    case round =>
      obtain ⟨m, q, ys, rfl, rfl, hq, hmq, hb2, hgw2, hin, hrw2, hyl, htk, hml, hdr⟩ := hrel
      have HB2 := Lib.hid hb2
      have HIN := Lib.hid hin
      have HRW2 := Lib.hid hrw2
      have HYL := Lib.hid hyl
      have HTK := Lib.hid htk
      have HML := Lib.hid hml
      have HDR := Lib.hid hdr
      clear hb2 hin hrw2 hyl htk hml hdr t1 t2
      by_cases hql : q < n
      · have hqn : (q : Int) < (n : Int) := by omega
        have hmn : m < n := by omega
        have hmn2 : (m : Int) < (n : Int) := by omega
        obtain ⟨x, hx⟩ : ∃ x, xs[q]? = some x := ⟨_, List.getElem?_eq_getElem (by rw [HN.out]; exact hql)⟩
        have hy2 : ys[q]? = some x := by
          have h := congrArg (fun l => l[0]?) HDR.out
          simp only [List.getElem?_drop, Nat.add_zero] at h
          rw [h]; exact hx
        obtain ⟨c0, _⟩ := HRW2.out q x hy2
        have hsn := keepI_snoc (pr := pr) hx
        have HSN := Lib.hid hsn
        have hdr1 : ys.drop (q + 1) = xs.drop (q + 1) := by
          have h := congrArg (fun l => l.drop 1) HDR.out
          simp only [List.drop_drop] at h
          exact h
        have HDR1 := Lib.hid hdr1
        clear hx hy2 hsn hdr1
        cases hpx : pr x with
        | true =>
          have HPX := Lib.hid hpx
          clear hpx
          go_wp2_with fail
          refine HP.out x _ HIN.out _ ?_
          intro w2 hg2
          rw [HPX.out]
          have HG2 := Lib.hid hg2
          clear hg2
          go_wp2_with fail
          go_roundw
          case rel =>
            refine ⟨m, q + 1, ys, rfl, by go_num, by omega, by omega, Below.of_grow HB2.out HG2.out (by omega), by have := HG2.out.sz; omega, HI.out _ _ HIN.out HG2.out, HRW2.out.grow HG2.out hgw2, HYL.out, ?_, ?_, HDR1.out⟩
            · rw [HSN.out, HPX.out, if_pos rfl, List.append_nil]; exact HTK.out
            · rw [HSN.out, HPX.out, if_pos rfl, List.append_nil]; exact HML.out
          case measure => simp [intOf]; omega
        | false =>
          have HPX := Lib.hid hpx
          clear hpx
          go_wp2_with fail
          refine HP.out x _ HIN.out _ ?_
          intro w2 hg2
          rw [HPX.out]
          have HG2 := Lib.hid hg2
          have hrw3 := HRW2.out.grow HG2.out hgw2
          have hgw3 : g < w2.heap.size := by have := HG2.out.sz; omega
          obtain ⟨y, hmy⟩ : ∃ y, ys[m]? = some y := ⟨_, List.getElem?_eq_getElem (by rw [HYL.out]; exact hmn)⟩
          obtain ⟨m0, z0⟩ := hrw3 m y hmy
          have HRW3 := Lib.hid hrw3
          clear hg2 hrw3 hmy
          go_wp2_with fail
          go_roundw
          case rel =>
            have hrs := HRW3.out.set (k := m) (by rw [HYL.out]; exact hmn) x
            refine ⟨m + 1, q + 1, ys.set m x, by go_num, by go_num, by omega, by omega, Below.setCell (Below.of_grow HB2.out HG2.out (by omega)) hB _, ?_, HS.out _ _ _ (HI.out _ _ HIN.out HG2.out), hrs, by rw [List.length_set]; exact HYL.out, ?_, ?_, ?_⟩
            · simp only [World.size_setCell]; exact hgw3
            · rw [HSN.out, HPX.out, if_neg (by simp), ← HTK.out, List.take_add_one, List.take_set, List.getElem?_set_self (by rw [HYL.out]; exact hmn), List.set_eq_of_length_le (by simp; omega)]; rfl
            · rw [HSN.out, HPX.out, if_neg (by simp), List.length_append]; have := HML.out; simp; omega
            · rw [List.drop_set_of_lt (by omega)]; exact HDR1.out
          case measure => simp [intOf]; omega
      · have hqe : q = n := by omega
        subst hqe
        have hcl : ∀ ty, (Builtin.clear_ #[29] ty #[.slice (some ⟨g, m, none⟩) (q - m) (cap - m)]).run Tryz.prog wr = .ok (.tuple #[]) (wr.setCells g m (zerosI (q - m))) := fun ty =>
          run_clear_ints wr ty g m (q - m) (cap - m) (by omega) (fun t ht => (HRW2.out.isSome (by rw [HYL.out]; omega)).1) (fun t ht => (HRW2.out.isSome (by rw [HYL.out]; omega)).2)
        have hfin := HRW2.out.cleared m (q - m)
        rw [HTK.out] at hfin
        have hlen : m = (keepI pr (xs.take q)).length := by
          rw [← HTK.out, List.length_take, HYL.out]; omega
        have hall : keepI pr (xs.take q) = keepI pr xs := by rw [List.take_of_length_le (by rw [HN.out]; exact Nat.le_refl _)]
        rw [hall] at hfin hlen
        have hf := HR.out _ (below_setCells g hB _ _ _ HB2.out) (by rw [size_setCells']; exact hgw2) hfin
        rw [← hlen] at hf
        have HF := Lib.hid hf
        have hm2 : (m : Int) ≤ (q : Int) := by omega
        have hm4 : m ≤ q := by omega
        have hm5 : m ≤ cap := by omega
        clear hf hfin hlen hall
        go_wp2_with fail
        exact HF.out
  · intro w1 hg1 hno
    have hall := keepI_all hno
    have hf := HR.out w1 (hg1.below (by omega)) (by have := hg1.sz; omega) (by rw [hall]; exact HROW.out.grow hg1 hg)
    rw [hall, HN.out] at hf
    have HF := Lib.hid hf
    clear hf hall hno hg1
    go_wp2_with fail
    exact HF.out
end Go.Proofs.YtmlbgfnddgbpbaaGreat
