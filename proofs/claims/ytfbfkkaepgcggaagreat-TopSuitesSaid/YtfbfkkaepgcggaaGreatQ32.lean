/-
The walks of the library's Index, Contains, IndexFunc and DeleteFunc on numbers.
The walk of the library's Compare on lists of numbers.
The walks of patch.turned, Breaks and seek.kills: the tests that a patch makes fail.
The walk of Fixes.
The single repairs at a place, as the document says them: the same ones. No program is named.
The mutants of a program: the plain laws. No program is named.
Few templates, and few mutants: plain laws.
The walks of Breaks, kills and Kills.
-/
import Derived.Test.YtfbfkkaepgcggaaGreatQ13
import Derived.Test.YtfbfkkaepgcggaaGreatQ27
import Derived.Test.YtfbfkkaepgcggaaGreatQ24
import Derived.Test.YtfbfkkaepgcggaaGreatQ43
import Derived.Test.YtfbfkkaepgcggaaGreatQ12
import Derived.Test.YtfbfkkaepgcggaaGreatQ23
import Derived.Test.YtfbfkkaepgcggaaGreatQ42
namespace Go.Proofs.YtfbfkkaepgcggaaGreat
open Go.RowKit

set_option maxHeartbeats 4000000 in
theorem indexI_any (xs : List Int) (x : Int) (v : Value) (w : World) (hv : IntsAt w v xs) (R : Ending → World → Prop)
    (hR1 : ∀ (k : Nat), xs.contains x = true → R (.returned (.int .i64 (k : Int))) w) (hR2 : xs.contains x = false → R (.returned (.int .i64 (-1))) w) :
    Calls Tryz.prog 66 #[v, .int .i64 x] w R := by
  have HV := Lib.hid hv
  obtain ⟨va, vc, rfl, v1, v2, _⟩ := hv
  have HR1 := Lib.hid hR1
  have HR2 := Lib.hid hR2
  have hm : xs.length ≤ 9223372036854775807 := by omega
  clear hR1 hR2
  go_enter Tryz.func66, Tryz.ntmps66
  go_wp2_with fail
  go_loopw [5, 8] (fun _ i wr => ∃ k : Nat, k ≤ xs.length ∧ i = .int .i64 k ∧ wr = w ∧ ∀ y ∈ xs.take k, (x == y) = false) (fun _ i _ => xs.length - (intOf i).toNat)
  case atStart => exact ⟨0, Nat.zero_le _, rfl, rfl, by simp⟩
  case round =>
    obtain ⟨k, hk, rfl, rfl, hno⟩ := hrel
    have HNO := Lib.hid hno
    clear hno
    by_cases hlt : k < xs.length
    · obtain ⟨y, hy⟩ : ∃ y, xs[k]? = some y := ⟨_, List.getElem?_eq_getElem hlt⟩
      obtain ⟨b, o, rfl, hb, e0⟩ := ints_at HV.out hy
      have hk2 : (k : Int) < (xs.length : Int) := by omega
      have HY := Lib.hid hy
      clear hy
      cases hxy : (x == y) with
      | true =>
        have HF := Lib.hid (HR1.out k (by rw [List.contains_iff_mem]; have := beq_iff_eq.1 hxy; subst this; exact List.mem_of_getElem? HY.out))
        go_wp2_with fail
        exact HF.out
      | false =>
        have HX := Lib.hid hxy
        go_wp2_with fail
        go_roundw
        case rel =>
          refine ⟨k + 1, by omega, by go_num, by first | trivial | rfl, fun z hz => ?_⟩
          rw [List.take_add_one, HY.out] at hz
          rcases List.mem_append.1 hz with hz | hz
          · exact HNO.out z hz
          · simp at hz; subst hz; exact HX.out
        case measure => simp [intOf]; omega
    · have hc : xs.contains x = false := by
        rw [← Bool.not_eq_true, List.contains_iff_mem]
        intro h
        have := HNO.out x (by rw [List.take_of_length_le (by omega)]; exact h)
        simp at this
      have HF := Lib.hid (HR2.out hc)
      clear hc
      go_wp2_with fail
      exact HF.out
set_option maxHeartbeats 1000000 in
theorem containsI_any (xs : List Int) (x : Int) (v : Value) (w : World) (hv : IntsAt w v xs) (R : Ending → World → Prop) (hR : R (.returned (.bool (xs.contains x))) w) :
    Calls Tryz.prog 41 #[v, .int .i64 x] w R := by
  have HR := Lib.hid hR
  have HV := Lib.hid hv
  obtain ⟨va, vc, rfl, v1, v2, _⟩ := hv
  clear hR
  go_enter Tryz.func41, Tryz.ntmps41
  go_wp2_with fail
  refine indexI_any xs x _ _ HV.out _ ?_ ?_
  · intro k hc
    have HF := HR.out
    rw [hc] at HF
    have HF2 := Lib.hid HF
    have hk : (k : Int) ≥ 0 := by omega
    clear HF HR
    go_wp2_with fail
    exact HF2.out
  · intro hc
    have HF := HR.out
    rw [hc] at HF
    have HF2 := Lib.hid HF
    clear HF HR
    go_wp2_with fail
    exact HF2.out

/-- The block g holds numbers, and they can be written. -/
def RowI (w : World) (g : Nat) (xs : List Int) : Prop := ∀ (j : Nat) (x : Int), xs[j]? = some x → w.cell? ⟨g, j, none⟩ = some (.int .i64 x) ∧ w.frozen? ⟨g, j, none⟩ = false
theorem RowI.grow {w w' : World} {g : Nat} {xs : List Int} (h : RowI w g xs) (hg : Grow w w') (hb : g < w.heap.size) : RowI w' g xs := fun j x hj => ⟨hg.cell (h j x hj).1, (hg.cellsB.2 g _ hb).trans (h j x hj).2⟩
theorem RowI.of_own {w : World} {base : Nat} {e : TypeId} {g n cap : Nat} {xs : List Int} (h : w.ownsRow base e 1 (.slice (some ⟨g, 0, none⟩) n cap) xs.length (xs.flatMap encI)) : RowI w g xs := by
  intro j x hj
  obtain ⟨_, _, e1, _, _, h4⟩ := slc_of_owns encI_len h
  cases e1
  rcases h4 with ⟨h4, _⟩ | ⟨b, o, e2, _, hc⟩
  · rw [h4] at hj; simp at hj
  · cases e2
    refine ⟨by have := hc j x hj 0 _ rfl; simpa using this, ?_⟩
    exact ownsRow_free h _
theorem RowI.set {w : World} {g : Nat} {xs : List Int} (h : RowI w g xs) {k : Nat} (hk : k < xs.length) (x : Int) : RowI (w.setCell ⟨g, k, none⟩ (.int .i64 x)) g (xs.set k x) := by
  intro j y hj
  rw [World.frozen?_setCell]
  by_cases e : j = k
  · subst e
    rw [List.getElem?_set_self hk] at hj
    cases hj
    obtain ⟨h1, h2⟩ := h j _ (List.getElem?_eq_getElem hk)
    exact ⟨World.cell?_setCell_same (h := h1) .., h2⟩
  · rw [List.getElem?_set_ne (fun e2 => e e2.symm)] at hj
    obtain ⟨h1, h2⟩ := h j y hj
    exact ⟨(World.cell?_setCell_other (h := by intro e3; cases e3; exact e rfl) ..).trans h1, h2⟩
theorem RowI.ints {w : World} {g c : Nat} {xs : List Int} (h : RowI w g xs) (hb : g < w.heap.size) (hc : xs.length ≤ c) (hm : c ≤ 9223372036854775807) : IntsAt w (.slice (some ⟨g, 0, none⟩) xs.length c) xs := by
  refine ⟨_, c, rfl, hc, hm, .inr ⟨g, 0, rfl, hb, fun j x hx i u hu => ?_⟩⟩
  have hi : i = 0 := by
    have := (List.getElem?_eq_some_iff.1 hu).1
    simp [encI] at this; exact this
  subst hi
  simp [encI] at hu
  subst hu
  simpa using (h j x hx).1
def zerosI (n : Nat) : List Value := (Builtin.zeroCells (Value.int .i64 0).cells n).toList
theorem zerosI_length (n : Nat) : (zerosI n).length = n := by
  unfold zerosI; rw [Array.length_toList, size_zeroCells]; simp [Value.cells]
theorem zerosI_one (n : Nat) : ∀ v ∈ zerosI n, v.oneCell' = true := by
  intro v hv
  unfold zerosI Builtin.zeroCells at hv
  rw [Array.toList_map, List.mem_map] at hv
  obtain ⟨i, _, rfl⟩ := hv
  have h1 : (Value.int .i64 0).cells.size = 1 := rfl
  rw [h1, Nat.mod_one]
  rfl
theorem run_clear_ints (w : World) (ty g o n c : Nat) (hn : 0 < n) (hc : ∀ j, j < n → (w.cell? ⟨g, o + j, none⟩).isSome = true) (hf : ∀ j, j < n → w.frozen? ⟨g, o + j, none⟩ = false) :
    (Builtin.clear_ #[25] ty #[.slice (some ⟨g, o, none⟩) n c]).run Tryz.prog w = .ok (.tuple #[]) (w.setCells g o (zerosI n)) := by
  have hst := run_storeCells_cells (P := Tryz.prog) g o (zerosI n) 0 w (by rw [zerosI_length]; simpa using hc) (by rw [zerosI_length]; simpa using hf) (zerosI_one n)
  simp only [Nat.add_zero] at hst
  obtain ⟨m, rfl⟩ : ∃ m, n = m + 1 := ⟨n - 1, by omega⟩
  unfold zerosI at hst ⊢
  simp [Builtin.clear_, run_underlying Tryz.underlying25, hst]
theorem RowI.cleared {w : World} {g : Nat} {ys : List Int} (h : RowI w g ys) (k n : Nat) : RowI (w.setCells g k (zerosI n)) g (ys.take k) := by
  intro j x hj
  rw [List.getElem?_take] at hj
  split at hj
  · next hjk =>
    obtain ⟨h1, h2⟩ := h j x hj
    rw [World.frozen?_setCells, World.cell?_setCells_out g (zerosI n) k w ⟨g, j, none⟩ (fun _ _ => .inl (by dsimp only; omega))]
    exact ⟨h1, h2⟩
  · cases hj
theorem RowI.isSome {w : World} {g : Nat} {ys : List Int} (h : RowI w g ys) {t : Nat} (ht : t < ys.length) : (w.cell? ⟨g, t, none⟩).isSome = true ∧ w.frozen? ⟨g, t, none⟩ = false := by
  obtain ⟨h1, h2⟩ := h t _ (List.getElem?_eq_getElem ht)
  exact ⟨by rw [h1]; rfl, h2⟩
def keepI (pr : Int → Bool) (xs : List Int) : List Int := xs.filter fun x => !pr x
theorem keepI_snoc {pr : Int → Bool} {xs : List Int} {k : Nat} {x : Int} (hx : xs[k]? = some x) : keepI pr (xs.take (k + 1)) = keepI pr (xs.take k) ++ (if pr x then [] else [x]) := by
  rw [List.take_add_one, hx]
  unfold keepI
  rw [List.filter_append]
  cases h : pr x <;> simp [h]
theorem keepI_all {pr : Int → Bool} {xs : List Int} (h : ∀ y ∈ xs, pr y = false) : keepI pr xs = xs := by
  unfold keepI
  rw [List.filter_eq_self]
  intro y hy
  rw [h y hy]; rfl
/-- A function value that answers pr on numbers, as long as Inv holds. -/
def PredW (g : Nat) (cb : Array Value) (pr : Int → Bool) (Inv : World → Prop) : Prop :=
  ∀ (x : Int) (W : World), Inv W → ∀ R : Ending → World → Prop, (∀ W', Grow W W' → R (.returned (.bool (pr x))) W') → Calls Tryz.prog g (#[.int .i64 x] ++ cb) W R

set_option maxHeartbeats 4000000 in
theorem indexFI_any (f : Nat) (cb : Array Value) (eg : Enters Tryz.prog f) (pr : Int → Bool) (Inv : World → Prop) (hI : ∀ W W', Inv W → Grow W W' → Inv W') (hp : PredW f cb pr Inv) (xs : List Int) (v : Value) (w : World) (hv : IntsAt w v xs) (hi : Inv w) (R : Ending → World → Prop)
    (hR1 : ∀ w' (k : Nat) x, Grow w w' → xs[k]? = some x → pr x = true → (∀ y ∈ xs.take k, pr y = false) → R (.returned (.int .i64 (k : Int))) w')
    (hR2 : ∀ w', Grow w w' → (∀ y ∈ xs, pr y = false) → R (.returned (.int .i64 (-1))) w') :
    Calls Tryz.prog 61 #[v, .func (.func f) #[] cb] w R := by
  have HV := Lib.hid hv
  have HI := Lib.hid hI
  have HP := Lib.hid hp
  have HI0 := Lib.hid hi
  have HR1 := Lib.hid hR1
  have HR2 := Lib.hid hR2
  obtain ⟨va, vc, rfl, v1, v2, _⟩ := hv
  have hm : xs.length ≤ 9223372036854775807 := by omega
  unfold Enters at eg
  clear hR1 hR2 hI hp hi
  go_enter Tryz.func61, Tryz.ntmps61
  go_wp2_with fail
  go_loopw [5, 8] (fun _ i wr => ∃ k : Nat, k ≤ xs.length ∧ i = .int .i64 k ∧ Grow w wr ∧ ∀ y ∈ xs.take k, pr y = false) (fun _ i _ => xs.length - (intOf i).toNat)
  case atStart => exact ⟨0, Nat.zero_le _, rfl, Grow.refl _, by simp⟩
  case round =>
    obtain ⟨k, hk, rfl, hg, hno⟩ := hrel
    have HG := Lib.hid hg
    have HNO := Lib.hid hno
    clear hg hno
    by_cases hlt : k < xs.length
    · obtain ⟨y, hy⟩ : ∃ y, xs[k]? = some y := ⟨_, List.getElem?_eq_getElem hlt⟩
      obtain ⟨b, o, rfl, hb, e0⟩ := ints_at (HV.out.grow HG.out) hy
      have hk2 : (k : Int) < (xs.length : Int) := by omega
      have HY := Lib.hid hy
      clear hy
      cases hpy : pr y with
      | true =>
        have HPY := Lib.hid hpy
        clear hpy
        go_wp2_with fail
        refine HP.out y _ (HI.out _ _ HI0.out HG.out) _ ?_
        intro w1 hg1
        rw [HPY.out]
        have HF := Lib.hid (HR1.out w1 k y (HG.out.trans hg1) HY.out HPY.out HNO.out)
        clear hg1
        go_wp2_with fail
        exact HF.out
      | false =>
        have HPY := Lib.hid hpy
        clear hpy
        go_wp2_with fail
        refine HP.out y _ (HI.out _ _ HI0.out HG.out) _ ?_
        intro w1 hg1
        rw [HPY.out]
        have HG1 := Lib.hid (HG.out.trans hg1)
        clear hg1
        go_wp2_with fail
        go_roundw
        case rel =>
          refine ⟨k + 1, by omega, by go_num, HG1.out, fun z hz => ?_⟩
          rw [List.take_add_one, HY.out] at hz
          rcases List.mem_append.1 hz with hz | hz
          · exact HNO.out z hz
          · simp at hz; subst hz; exact HPY.out
        case measure => simp [intOf]; omega
    · have HF := Lib.hid (HR2.out wr HG.out (fun y hy => HNO.out y (by rw [List.take_of_length_le (by omega)]; exact hy)))
      go_wp2_with fail
      exact HF.out

set_option maxRecDepth 100000 in
set_option maxHeartbeats 8000000 in
theorem deleteFI_any (f : Nat) (cb : Array Value) (eg : Enters Tryz.prog f) (pr : Int → Bool) (Inv : World → Prop) (hI : ∀ W W', Inv W → Grow W W' → Inv W') (hp : PredW f cb pr Inv) (xs : List Int) (g n cap B : Nat) (hS : ∀ W k v, Inv W → Inv (W.setCell ⟨g, k, none⟩ v)) (w : World) (hn : xs.length = n) (hcap : n ≤ cap) (hm : cap ≤ 9223372036854775807) (hrow : RowI w g xs) (hg : g < w.heap.size) (hB : B ≤ g) (hi : Inv w) (R : Ending → World → Prop)
    (hR : ∀ w', Below B w w' → g < w'.heap.size → RowI w' g (keepI pr xs) → R (.returned (.slice (some ⟨g, 0, none⟩) (keepI pr xs).length cap)) w') :
    Calls Tryz.prog 36 #[.slice (some ⟨g, 0, none⟩) n cap, .func (.func f) #[] cb] w R := by
  have HN := Lib.hid hn
  have HROW := Lib.hid hrow
  have HR := Lib.hid hR
  have HI := Lib.hid hI
  have HS := Lib.hid hS
  have HP := Lib.hid hp
  have HI0 := Lib.hid hi
  have hv := hrow.ints hg (by rw [hn]; exact hcap) hm
  rw [hn] at hv
  have HV := Lib.hid hv
  have EG := Lib.hid eg
  unfold Enters at eg
  clear hn hrow hR hI hS hp hi hv
  go_enter Tryz.func36, Tryz.ntmps36
  go_wp2_with fail
  refine indexFI_any f cb EG.out pr Inv HI.out HP.out xs _ _ HV.out HI0.out _ ?_ ?_
  · intro w1 k x hg1 hx hpx hno
    have hkn : k < n := by rw [← HN.out]; exact (List.getElem?_eq_some_iff.1 hx).1
    have hst : keepI pr (xs.take (k + 1)) = xs.take k := by
      rw [keepI_snoc hx, hpx, if_pos rfl, List.append_nil]; exact keepI_all hno
    have HST := Lib.hid hst
    have HG1 := Lib.hid hg1
    have hgw1 : g < w1.heap.size := by have := hg1.sz; omega
    have t1 : ((k : Int) == -1) = false := by simp
    have t2 : ((k : Int) != -1) = true := by simp
    clear hx hpx hno hst hg1
    go_wp2_with fail
    go_loopw [5, 6, 7] (fun iv jv _ wr => ∃ (m q : Nat) (ys : List Int), iv = .int .i64 m ∧ jv = .int .i64 q ∧ q ≤ n ∧ m < q ∧ Below B w wr ∧ g < wr.heap.size ∧ Inv wr ∧ RowI wr g ys ∧ ys.length = n ∧ ys.take m = keepI pr (xs.take q) ∧ (keepI pr (xs.take q)).length = m ∧ ys.drop q = xs.drop q) (fun _ jv _ _ => n - (intOf jv).toNat)
    case atStart =>
      refine ⟨k, k + 1, xs, rfl, by go_num, by omega, by omega, HG1.out.below (by omega), hgw1, HI.out _ _ HI0.out HG1.out, HROW.out.grow HG1.out hg, HN.out, HST.out.symm, ?_, rfl⟩
      rw [HST.out, List.length_take, HN.out]; omega
    case round =>
      obtain ⟨m, q, ys, rfl, rfl, hq, hmq, hb2, hgw2, hin, hrw2, hyl, htk, hml, hdr⟩ := hrel
      have HB2 := Lib.hid hb2
      have HIN := Lib.hid hin
      have HRW2 := Lib.hid hrw2
      have HYL := Lib.hid hyl
      have HTK := Lib.hid htk
      have HML := Lib.hid hml
      have HDR := Lib.hid hdr
      clear hb2 hin hrw2 hyl htk hml hdr t1 t2
      by_cases hql : q < n
      · have hqn : (q : Int) < (n : Int) := by omega
        have hmn : m < n := by omega
        have hmn2 : (m : Int) < (n : Int) := by omega
        obtain ⟨x, hx⟩ : ∃ x, xs[q]? = some x := ⟨_, List.getElem?_eq_getElem (by rw [HN.out]; exact hql)⟩
        have hy2 : ys[q]? = some x := by
          have h := congrArg (fun l => l[0]?) HDR.out
          simp only [List.getElem?_drop, Nat.add_zero] at h
          rw [h]; exact hx
        obtain ⟨c0, _⟩ := HRW2.out q x hy2
        have hsn := keepI_snoc (pr := pr) hx
        have HSN := Lib.hid hsn
        have hdr1 : ys.drop (q + 1) = xs.drop (q + 1) := by
          have h := congrArg (fun l => l.drop 1) HDR.out
          simp only [List.drop_drop] at h
          exact h
        have HDR1 := Lib.hid hdr1
        clear hx hy2 hsn hdr1
        cases hpx : pr x with
        | true =>
          have HPX := Lib.hid hpx
          clear hpx
          go_wp2_with fail
          refine HP.out x _ HIN.out _ ?_
          intro w2 hg2
          rw [HPX.out]
          have HG2 := Lib.hid hg2
          clear hg2
          go_wp2_with fail
          go_roundw
          case rel =>
            refine ⟨m, q + 1, ys, rfl, by go_num, by omega, by omega, Below.of_grow HB2.out HG2.out (by omega), by have := HG2.out.sz; omega, HI.out _ _ HIN.out HG2.out, HRW2.out.grow HG2.out hgw2, HYL.out, ?_, ?_, HDR1.out⟩
            · rw [HSN.out, HPX.out, if_pos rfl, List.append_nil]; exact HTK.out
            · rw [HSN.out, HPX.out, if_pos rfl, List.append_nil]; exact HML.out
          case measure => simp [intOf]; omega
        | false =>
          have HPX := Lib.hid hpx
          clear hpx
          go_wp2_with fail
          refine HP.out x _ HIN.out _ ?_
          intro w2 hg2
          rw [HPX.out]
          have HG2 := Lib.hid hg2
          have hrw3 := HRW2.out.grow HG2.out hgw2
          have hgw3 : g < w2.heap.size := by have := HG2.out.sz; omega
          obtain ⟨y, hmy⟩ : ∃ y, ys[m]? = some y := ⟨_, List.getElem?_eq_getElem (by rw [HYL.out]; exact hmn)⟩
          obtain ⟨m0, z0⟩ := hrw3 m y hmy
          have HRW3 := Lib.hid hrw3
          clear hg2 hrw3 hmy
          go_wp2_with fail
          go_roundw
          case rel =>
            have hrs := HRW3.out.set (k := m) (by rw [HYL.out]; exact hmn) x
            refine ⟨m + 1, q + 1, ys.set m x, by go_num, by go_num, by omega, by omega, Below.setCell (Below.of_grow HB2.out HG2.out (by omega)) hB _, ?_, HS.out _ _ _ (HI.out _ _ HIN.out HG2.out), hrs, by rw [List.length_set]; exact HYL.out, ?_, ?_, ?_⟩
            · simp only [World.size_setCell]; exact hgw3
            · rw [HSN.out, HPX.out, if_neg (by simp), ← HTK.out, List.take_add_one, List.take_set, List.getElem?_set_self (by rw [HYL.out]; exact hmn), List.set_eq_of_length_le (by simp; omega)]; rfl
            · rw [HSN.out, HPX.out, if_neg (by simp), List.length_append]; have := HML.out; simp; omega
            · rw [List.drop_set_of_lt (by omega)]; exact HDR1.out
          case measure => simp [intOf]; omega
      · have hqe : q = n := by omega
        subst hqe
        have hcl : ∀ ty, (Builtin.clear_ #[25] ty #[.slice (some ⟨g, m, none⟩) (q - m) (cap - m)]).run Tryz.prog wr = .ok (.tuple #[]) (wr.setCells g m (zerosI (q - m))) := fun ty =>
          run_clear_ints wr ty g m (q - m) (cap - m) (by omega) (fun t ht => (HRW2.out.isSome (by rw [HYL.out]; omega)).1) (fun t ht => (HRW2.out.isSome (by rw [HYL.out]; omega)).2)
        have hfin := HRW2.out.cleared m (q - m)
        rw [HTK.out] at hfin
        have hlen : m = (keepI pr (xs.take q)).length := by
          rw [← HTK.out, List.length_take, HYL.out]; omega
        have hall : keepI pr (xs.take q) = keepI pr xs := by rw [List.take_of_length_le (by rw [HN.out]; exact Nat.le_refl _)]
        rw [hall] at hfin hlen
        have hf := HR.out _ (below_setCells g hB _ _ _ HB2.out) (by rw [size_setCells']; exact hgw2) hfin
        rw [← hlen] at hf
        have HF := Lib.hid hf
        have hm2 : (m : Int) ≤ (q : Int) := by omega
        have hm4 : m ≤ q := by omega
        have hm5 : m ≤ cap := by omega
        clear hf hfin hlen hall
        go_wp2_with fail
        exact HF.out
  · intro w1 hg1 hno
    have hall := keepI_all hno
    have hf := HR.out w1 (hg1.below (by omega)) (by have := hg1.sz; omega) (by rw [hall]; exact HROW.out.grow hg1 hg)
    rw [hall, HN.out] at hf
    have HF := Lib.hid hf
    clear hf hall hno hg1
    go_wp2_with fail
    exact HF.out
end Go.Proofs.YtfbfkkaepgcggaaGreat

namespace Go.Proofs.YtfbfkkaepgcggaaGreat
open Go.RowKit

theorem cmpIs_cons (x y : Int) (a b : List Int) : cmpIs (x :: a) (y :: b) = if cmpI x y = 0 then cmpIs a b else cmpI x y := rfl
set_option maxHeartbeats 4000000 in
theorem compareIs_any (xs ys : List Int) (v u : Value) (w : World) (hx : IntsAt w v xs) (hy : IntsAt w u ys) (R : Ending → World → Prop)
    (hR : R (.returned (.int .i64 (cmpIs xs ys))) w) :
    Calls Tryz.prog 26 #[v, u] w R := by
  have HX := Lib.hid hx
  have HY := Lib.hid hy
  have HR := Lib.hid hR
  obtain ⟨xa, xc, rfl, x1, x2, jk1⟩ := hx
  obtain ⟨ya, yc, rfl, y1, y2, jk2⟩ := hy
  clear hR jk1 jk2
  go_enter Tryz.func26, Tryz.ntmps26
  go_wp2_with fail
  go_loopw [5, 6, 7, 8, 11] (fun _ _ _ _ i wr => ∃ k : Nat, k ≤ xs.length ∧ k ≤ ys.length ∧ i = .int .i64 k ∧ wr = w ∧ cmpIs xs ys = cmpIs (xs.drop k) (ys.drop k)) (fun _ _ _ _ i _ => xs.length - (intOf i).toNat)
  case atStart => exact ⟨0, Nat.zero_le _, Nat.zero_le _, rfl, rfl, rfl⟩
  case round =>
    obtain ⟨k, hkx, hky, rfl, rfl, hq⟩ := hrel
    have HQ := Lib.hid hq
    clear hq
    by_cases hlx : k < xs.length
    · obtain ⟨x, hx⟩ : ∃ x, xs[k]? = some x := ⟨_, List.getElem?_eq_getElem hlx⟩
      obtain ⟨gb, o, rfl, hb, e0⟩ := ints_at HX.out hx
      have hlx2 : (k : Int) < (xs.length : Int) := by omega
      have HDX := Lib.hid (drop_cons hx)
      clear hx
      by_cases hly : k < ys.length
      · obtain ⟨y, hy⟩ : ∃ y, ys[k]? = some y := ⟨_, List.getElem?_eq_getElem hly⟩
        obtain ⟨gb2, o2, rfl, hb2, f0⟩ := ints_at HY.out hy
        have hly2 : (k : Int) < (ys.length : Int) := by omega
        have hly3 : ¬ (k : Int) ≥ (ys.length : Int) := by omega
        have hq2 := HQ.out
        rw [HDX.out, drop_cons hy] at hq2
        have HQ2 := Lib.hid hq2
        clear hy hq2
        go_wp2_with fail
        refine cmpI_any _ _ _ _ ?_
        obtain ⟨c, hc⟩ : ∃ c, cmpI x y = c := ⟨_, rfl⟩
        rw [hc]
        have hq3 := HQ2.out
        rw [cmpIs_cons] at hq3
        rw [hc] at hq3
        by_cases hc0 : c = 0
        · rw [if_pos hc0] at hq3
          have HQ3 := Lib.hid hq3
          subst hc0
          clear hq3 hc
          go_wp2_with fail
          go_roundw
          case rel => exact ⟨k + 1, by omega, by omega, by go_num, by first | rfl | trivial, HQ3.out⟩
          case measure => simp [intOf]; omega
        · rw [if_neg hc0] at hq3
          have hr := HR.out
          rw [hq3] at hr
          have HF := Lib.hid hr
          have t1 : (c != 0) = true := by simpa using hc0
          clear hq3 hc hr
          go_wp2_with fail
          exact HF.out
      · have hly3 : (k : Int) ≥ (ys.length : Int) := by omega
        have hq2 := HQ.out
        rw [HDX.out, List.drop_eq_nil_of_le (show ys.length ≤ k by omega)] at hq2
        have hr := HR.out
        rw [hq2] at hr
        have HF := Lib.hid (show R (.returned (.int .i64 1)) wr from hr)
        clear hq2 hr
        go_wp2_with fail
        exact HF.out
    · have hq2 := HQ.out
      have hlx2 : ¬ (k : Int) < (xs.length : Int) := by omega
      rw [List.drop_eq_nil_of_le (show xs.length ≤ k by omega)] at hq2
      by_cases hly : k < ys.length
      · obtain ⟨y, hy⟩ : ∃ y, ys[k]? = some y := ⟨_, List.getElem?_eq_getElem hly⟩
        rw [drop_cons hy] at hq2
        have hr := HR.out
        rw [hq2] at hr
        have HF := Lib.hid (show R (.returned (.int .i64 (-1))) wr from hr)
        have hly3 : (xs.length : Int) < (ys.length : Int) := by omega
        clear hq2 hr hy
        go_wp2_with fail
        exact HF.out
      · rw [List.drop_eq_nil_of_le (show ys.length ≤ k by omega)] at hq2
        have hr := HR.out
        rw [hq2] at hr
        have HF := Lib.hid (show R (.returned (.int .i64 0)) wr from hr)
        have hly3 : ¬ (xs.length : Int) < (ys.length : Int) := by omega
        clear hq2 hr
        go_wp2_with fail
        exact HF.out

end Go.Proofs.YtfbfkkaepgcggaaGreat

namespace Go.Proofs.YtfbfkkaepgcggaaGreat
open Go.RowKit

/-- The tests that a patch makes fail. -/
def brkM (p q : List Ln) (ts : List Tst) : List Int := whereL (fun t => !passM q t && passM p t) ts
theorem fmap_congr {f g : Nat → Option Int} : ∀ (l : List Nat), (∀ k ∈ l, f k = g k) → l.filterMap f = l.filterMap g
  | [], _ => rfl
  | k :: r, h => by rw [List.filterMap_cons, List.filterMap_cons, h k (by simp), fmap_congr r (fun j hj => h j (by simp [hj]))]
theorem where_and (f g : Tst → Bool) (ts : List Tst) : keepI (fun i => !(whereL g ts).contains i) (whereL f ts) = whereL (fun t => f t && g t) ts := by
  have h1 : ∀ h : Tst → Bool, whereL h ts = (List.range ts.length).filterMap fun k : Nat => match ts[k]? with | some t => if h t then some (k : Int) else none | none => none := fun h => by unfold whereL; refine congrArg (fun F => List.filterMap F _) (funext fun k => ?_); cases ts[k]? <;> rfl
  unfold keepI
  rw [h1 f, h1 (fun t => f t && g t), List.filter_filterMap]
  refine fmap_congr _ fun k hk => ?_
  have hlt : k < ts.length := List.mem_range.1 hk
  rw [List.getElem?_eq_getElem hlt]
  dsimp only
  have hc : (whereL g ts).contains (k : Int) = g ts[k] := by
    rw [Bool.eq_iff_iff, List.contains_iff_mem, mem_whereL]
    constructor
    · rintro ⟨k', t, hk', ht, hg⟩
      have : k = k' := by omega
      subst this
      rw [List.getElem?_eq_getElem hlt] at ht
      cases ht
      exact hg
    · intro hg
      exact ⟨k, _, rfl, List.getElem?_eq_getElem hlt, hg⟩
  cases hf : f ts[k] with
  | false => simp
  | true =>
    simp only [if_true, Bool.true_and]
    rw [Option.filter_some, hc, Bool.not_not]
def TInv (cb : Nat) (v : Value) (C : List Int) (X : World) : Prop := X.heap[cb]? = some (.cells #[v] 25 (0, 0)) ∧ IntsAt X v C
theorem own_blkI {base k : Nat} {α : Type} {enc : α → List Value} {w : World} {a : Option Addr} {n c : Nat} {xs : List α} (h : Own k enc base w (.slice a n c) xs) : ∀ b o s, a = some ⟨b, o, s⟩ → base ≤ b := by
  obtain ⟨e, h⟩ := h
  intro b o s ha
  subst ha
  rcases h.2 with ⟨hv, _⟩ | ⟨g, cap, cur, hv, hg, _⟩
  · cases hv
  · cases hv; exact hg
theorem slc_setCell {α : Type} {k : Nat} {enc : α → List Value} {w : World} {g j : Nat} {u : Value} {a : Option Addr} {n c : Nat} {xs : List α} (h : SlcAt k enc w (.slice a n c) xs) (hb : ∀ b o s, a = some ⟨b, o, s⟩ → b ≠ g) : SlcAt k enc (w.setCell ⟨g, j, none⟩ u) (.slice a n c) xs := by
  obtain ⟨a', c', hv, h1, h2, h3⟩ := h
  cases hv
  refine ⟨a, c, rfl, h1, h2, h3.imp id ?_⟩
  rintro ⟨b, o, rfl, hbl, hc⟩
  refine ⟨b, o, rfl, by rw [World.size_setCell]; exact hbl, fun j x hx i u hu => ?_⟩
  rw [World.cell?_setCell_far _ _ _ _ (fun h => hb b o none rfl h.symm)]
  exact hc j x hx i u hu

set_option maxHeartbeats 2000000 in
theorem turnF_any (x : Int) (ps : List Int) (v : Value) (cb : Nat) (w : World) (hv : IntsAt w v ps) (hb : w.heap[cb]? = some (.cells #[v] 25 (0, 0))) (R : Ending → World → Prop)
    (hR : ∀ w', Grow w w' → R (.returned (.bool (!ps.contains x))) w') :
    Calls Tryz.prog 111 #[.int .i64 x, .pointer (some ⟨cb, 0, none⟩)] w R := by
  have HV := Lib.hid hv
  have HR := Lib.hid hR
  obtain ⟨a, c, rfl, _⟩ := hv
  have e0 := box1 hb
  have hz := lt_of_block hb
  clear hR hb
  go_enter Tryz.func111, Tryz.ntmps111
  go_wp2_with fail
  refine containsI_any ps x _ _ HV.out _ ?_
  have HF := Lib.hid (HR.out w (Grow.refl w))
  generalize ps.contains x = b at HF ⊢
  clear HR
  go_wp2_with fail
  exact HF.out

set_option maxHeartbeats 2000000 in
theorem deleteFI_none (f : Nat) (cb : Array Value) (eg : Enters Tryz.prog f) (pr : Int → Bool) (Inv : World → Prop) (hI : ∀ W W', Inv W → Grow W W' → Inv W') (hp : PredW f cb pr Inv) (w : World) (hi : Inv w) (R : Ending → World → Prop) (hR : ∀ w', Grow w w' → R (.returned (.slice none 0 0)) w') :
    Calls Tryz.prog 36 #[.slice none 0 0, .func (.func f) #[] cb] w R := by
  have HR := Lib.hid hR
  have HI := Lib.hid hI
  have HP := Lib.hid hp
  have HI0 := Lib.hid hi
  have EG := Lib.hid eg
  unfold Enters at eg
  clear hR hI hp hi
  go_enter Tryz.func36, Tryz.ntmps36
  go_wp2_with fail
  refine indexFI_any f cb EG.out pr Inv HI.out HP.out [] _ _ (SlcAt.nil _ _ _) HI0.out _ ?_ ?_
  · intro w1 k x hg1 hx _ _
    simp at hx
  · intro w1 hg1 _
    have HF := Lib.hid (HR.out w1 hg1)
    clear hg1
    go_wp2_with fail
    exact HF.out

set_option maxRecDepth 100000 in
set_option maxHeartbeats 8000000 in
theorem turned_any (q p : List Ln) (ts : List Tst) (qv pv tv : Value) (w : World) (hq : LinesAt w qv q) (hp : LinesAt w pv p) (ht : TestsAt w tv ts) (h1 : chkT q ts = 0) (h2 : chkT p ts = 0) (R : Ending → World → Prop)
    (hR : ∀ w' v, Grow w w' → IntsAt w' v (brkM p q ts) → R (.returned v) w') :
    Calls Tryz.prog 93 #[qv, pv, tv] w R := by
  have HQ := Lib.hid hq
  have HP := Lib.hid hp
  have HT := Lib.hid ht
  have HR := Lib.hid hR
  have H1 := Lib.hid h1
  have H2 := Lib.hid h2
  obtain ⟨qa, qc, rfl, _⟩ := hq
  obtain ⟨pa, pc, rfl, _⟩ := hp
  obtain ⟨⟨ta, tc, rfl, _⟩, _⟩ := ht
  have eg : Enters Tryz.prog 111 := enters_of Tryz.func111 (by kernel_rfl) rfl
  have EG := Lib.hid eg
  obtain ⟨A, hA⟩ : ∃ A, whereL (fun t => !passM q t) ts = A := ⟨_, rfl⟩
  obtain ⟨C, hC⟩ : ∃ C, whereL (passM p) ts = C := ⟨_, rfl⟩
  have hbr : brkM p q ts = keepI (fun i => !C.contains i) A := by rw [← hA, ← hC, where_and]; rfl
  rw [hbr] at HR
  have HA := Lib.hid hA
  have HC := Lib.hid hC
  clear hR h1 h2 eg hA hC hbr
  go_enter Tryz.func93, Tryz.ntmps93
  go_wp2_with fail
  refine Failing_any q ts _ _ _ HQ.out HT.out _ ?_
  intro w1 x1 hg1 hx1
  rw [H1.out, ifOK_ok, HA.out] at hx1
  rw [H1.out]
  have HX1 := Lib.hid hx1
  obtain ⟨a1, c1, rfl, q11, q12, _⟩ := hx1.slc encI_len
  have HG1 := Lib.hid hg1
  clear hg1 hx1
  go_wp2_with fail
  refine Passing_any p ts _ _ _ (HP.out.grow HG1.out) (HT.out.grow HG1.out) _ ?_
  intro w2 x2 hg2 hx2
  rw [H2.out, ifOK_ok, show whereL (fun t => passM p t) ts = C from HC.out] at hx2
  rw [H2.out]
  have hs2 := hx2.slc encI_len
  have hbk2 : ∀ b o s, ∀ a c, x2 = .slice a C.length c → a = some ⟨b, o, s⟩ → w1.heap.size ≤ b := fun b o s a c h ha => own_blkI (h ▸ hx2) b o s ha
  obtain ⟨a2, c2, rfl, _⟩ := hs2
  have HS2 := Lib.hid (hx2.slc encI_len)
  have HB2 := Lib.hid (fun b o s h => hbk2 b o s a2 c2 rfl h)
  have HG2 := Lib.hid hg2
  have hz2 := hg2.sz
  clear hg2 hx2 hbk2
  go_wp2_with fail
  have hb := heap_alloc_new w2 (.cells #[.slice a2 C.length c2] 25)
  have hg := (Grow.refl w2).alloc (.cells #[.slice a2 C.length c2] 25)
  have hszW : (w2.alloc (.cells #[.slice a2 C.length c2] 25)).heap.size = w2.heap.size + 1 := by simp
  generalize w2.alloc (.cells #[.slice a2 C.length c2] 25) = W at hb hg hszW ⊢
  have hpred : PredW 111 #[.pointer (some ⟨w2.heap.size, 0, none⟩)] (fun i => !C.contains i) (TInv w2.heap.size (.slice a2 C.length c2) C) := fun x X hX R hR => turnF_any x C _ _ X hX.2 hX.1 R hR
  have hgrw : ∀ X X' : World, TInv w2.heap.size (.slice a2 C.length c2) C X → Grow X X' → TInv w2.heap.size (.slice a2 C.length c2) C X' := fun X X' h g => ⟨g.blk h.1, h.2.grow g⟩
  have hinv : TInv w2.heap.size (.slice a2 C.length c2) C W := ⟨hb, HS2.out.grow hg⟩
  have hst : ∀ g1 : Nat, g1 < w1.heap.size → ∀ (X : World) (k : Nat) (v : Value), TInv w2.heap.size (.slice a2 C.length c2) C X → TInv w2.heap.size (.slice a2 C.length c2) C (X.setCell ⟨g1, k, none⟩ v) := by
    intro g1 hg1 X k v hX
    refine ⟨?_, slc_setCell hX.2 (fun b o s h => by have := HB2.out b o s h; omega)⟩
    rw [Below.heap_setCell _ _ _ _ (by show w2.heap.size ≠ g1; omega)]
    exact hX.1
  have HX1' := HX1.out
  obtain ⟨e1, hrow1⟩ := HX1'
  rcases hrow1.2 with ⟨hv, h0⟩ | ⟨g1, cap1, cur1, hv, hbg, hh, _⟩
  · obtain ⟨rfl, _, rfl⟩ : a1 = none ∧ A.length = 0 ∧ c1 = 0 := by simpa using hv
    have hA0 : A = [] := List.length_eq_zero_iff.1 h0
    rw [h0]
    refine deleteFI_none 111 _ EG.out (fun i => !C.contains i) (TInv w2.heap.size (.slice a2 C.length c2) C) hgrw hpred _ hinv _ ?_
    intro w3 hg3
    have HF := Lib.hid (HR.out w3 (.slice none 0 0) (HG1.out.trans (HG2.out.trans (hg.trans hg3))) (by rw [hA0]; exact SlcAt.nil _ _ _))
    clear hg3 hpred hgrw hinv hst hb hg
    go_wp2_with fail
    exact HF.out
  · cases hv
    have hg1s : g1 < w1.heap.size := lt_of_block hh
    have hrowI := RowI.of_own hrow1
    have hrI := hrowI.grow (HG2.out.trans hg) hg1s
    have hgW : g1 < W.heap.size := by omega
    refine deleteFI_any 111 _ EG.out (fun i => !C.contains i) (TInv w2.heap.size (.slice a2 C.length c2) C) hgrw hpred A g1 A.length _ w.heap.size (hst g1 hg1s) W rfl q11 q12 hrI hgW hbg hinv _ ?_
    · intro w3 hb3 hg3 hr3
      have hle : (keepI (fun i => !C.contains i) A).length ≤ A.length := List.length_filter_le _ _
      have HF := Lib.hid (HR.out w3 _ (Below.trans (HG1.out.trans (HG2.out.trans hg)) hb3) (hr3.ints hg3 (Nat.le_trans hle q11) q12))
      clear hb3 hg3 hr3 hpred hgrw hinv hst hb hg hrI hgW
      generalize keepI (fun i => !C.contains i) A = Lk at HF ⊢
      go_wp2_with fail
      exact HF.out
end Go.Proofs.YtfbfkkaepgcggaaGreat

namespace Go.Proofs.YtfbfkkaepgcggaaGreat
open Go.RowKit

theorem candL_len {p : List Ln} {l : Ln} {kind : Int} (hl : l.ok = true) (hk : 0 ≤ kind) (hk2 : kind ≤ 2) : (candL p l kind).length ≤ 1000 := by
  have h1 : allR.length ≤ 1000 := by decide +kernel
  rw [cand_eq hl hk hk2]
  have := List.length_filter_le (fun x => inC p l kind x && !decide (x = l)) allR
  unfold candR; omega
end Go.Proofs.YtfbfkkaepgcggaaGreat

namespace Go.Proofs.YtfbfkkaepgcggaaGreat
open Go.RowKit

theorem edsOK_one {at_ : Int} {x : Ln} (h0 : 0 ≤ at_) (h1 : at_ < 8) (hx : x.ok = true) : edsOK [⟨at_, x⟩] = true := by
  refine edsOK_upto (k := 1) (fun i hi => ?_) (by simp)
  have : i = 0 := by omega
  subst this
  refine (edOK_iff (e := ⟨at_, x⟩) rfl).2 ⟨⟨h0, h1⟩, ?_, hx⟩
  show (-1 : Int) < at_
  omega
theorem chkX_one {p : List Ln} {ts : List Tst} {at_ : Int} {x : Ln} (hp : valP p = 0) (ht : valT ts = 0) (h0 : 0 ≤ at_) (h1 : at_ < p.length) (hx : x.ok = true) : chkX p [⟨at_, x⟩] ts = 0 := by
  have h8 := (valP_ok.1 hp).1
  refine chkX_ok.2 ⟨hp, valX_ok.2 ⟨by simp, edsOK_one h0 (by omega) hx⟩, ht, ?_⟩
  unfold offB
  simp; omega
theorem lineAt_ok {p : List Ln} {at_ : Int} (hp : valP p = 0) (h0 : 0 ≤ at_) (h1 : at_ < p.length) : (lineAt p at_).ok = true := by
  unfold lineAt
  rw [List.getElem?_eq_getElem (show at_.toNat < p.length by omega)]
  exact (valP_ok.1 hp).2 _ (List.getElem_mem _)
end Go.Proofs.YtfbfkkaepgcggaaGreat

namespace Go.Proofs.YtfbfkkaepgcggaaGreat
open Go.RowKit

/-- The mutants at the first places. -/
def mutM (p : List Ln) (k : Nat) : List Ed := (List.range k).flatMap fun n : Nat => (tmpl (lineAt p n)).map (Ed.mk n)
theorem mutM_succ (p : List Ln) (k : Nat) : mutM p (k + 1) = mutM p k ++ (tmpl (lineAt p k)).map (Ed.mk k) := by
  unfold mutM
  rw [List.range_succ, List.flatMap_append]
  simp
theorem tmpl_asc (l : Ln) : (tmpl l).Pairwise ltP := by
  unfold tmpl
  split
  · exact List.Pairwise.nil
  · exact (ordL_is _).1
theorem mem_mutM {p : List Ln} {k : Nat} {e : Ed} : e ∈ mutM p k ↔ ∃ n x, n < k ∧ e = ⟨((n : Nat) : Int), x⟩ ∧ x ∈ tmpl (lineAt p n) := by
  unfold mutM
  rw [List.mem_flatMap]
  constructor
  · rintro ⟨n, hn, he⟩
    obtain ⟨x, hx, rfl⟩ := List.mem_map.1 he
    exact ⟨n, x, List.mem_range.1 hn, rfl, hx⟩
  · rintro ⟨n, x, hn, rfl, hx⟩
    exact ⟨n, List.mem_range.2 hn, List.mem_map.2 ⟨x, hx, rfl⟩⟩
theorem mutM_asc (p : List Ln) : ∀ k, (mutM p k).Pairwise ltE
  | 0 => List.Pairwise.nil
  | k + 1 => by
    rw [mutM_succ, List.pairwise_append]
    refine ⟨mutM_asc p k, ?_, ?_⟩
    · rw [List.pairwise_map]
      exact (tmpl_asc _).imp fun {a b} h => .inr ⟨rfl, h⟩
    · intro a ha b hb
      obtain ⟨n, x, hn, rfl, _⟩ := mem_mutM.1 ha
      obtain ⟨y, _, rfl⟩ := List.mem_map.1 hb
      exact .inl (by dsimp only; omega)
theorem tmpl_len {l : Ln} (hl : l.ok = true) : (tmpl l).length ≤ 1000 := candL_len (p := []) (kind := 0) hl (by decide) (by decide)
theorem mutM_len {p : List Ln} (hp : valP p = 0) : ∀ k, k ≤ p.length → (mutM p k).length ≤ k * 1000
  | 0, _ => by simp [mutM]
  | k + 1, hk => by
    rw [mutM_succ, List.length_append, List.length_map]
    have := mutM_len hp k (by omega)
    have := tmpl_len (lineAt_ok (at_ := (k : Int)) hp (by omega) (by omega))
    omega
def mutO (p : List Ln) : List Ed := ifOK (valP p) (mutM p p.length)
end Go.Proofs.YtfbfkkaepgcggaaGreat

namespace Go.Proofs.YtfbfkkaepgcggaaGreat
open Go.RowKit

theorem tmpl_ok {l x : Ln} (h : x ∈ tmpl l) : x.ok = true := by
  unfold tmpl at h
  split at h
  · cases h
  · unfold validL at h
    rw [mem_ordL] at h
    have := (List.mem_filter.1 h).2
    simp at this
    exact this.2
end Go.Proofs.YtfbfkkaepgcggaaGreat

namespace Go.Proofs.YtfbfkkaepgcggaaGreat
open Go.RowKit

/-- What Breaks answers. -/
def brkO (p : List Ln) (x : List Ed) (ts : List Tst) : List Int := ifOK (chkX p x ts) (brkM p (doM p x) ts)
set_option maxHeartbeats 4000000 in
theorem Breaks_any (p : List Ln) (x : List Ed) (ts : List Tst) (pv xv tv : Value) (w : World) (hp : LinesAt w pv p) (hx : EditsAt w xv x) (ht : TestsAt w tv ts) (R : Ending → World → Prop)
    (hR : ∀ w' v, Grow w w' → IntsAt w' v (brkO p x ts) → R (.returned (.tuple #[v, .int .i64 (chkX p x ts)])) w') :
    Calls Tryz.prog 74 #[pv, xv, tv] w R := by
  have HP := Lib.hid hp
  have HX := Lib.hid hx
  have HT := Lib.hid ht
  rw [show brkO p x ts = ifOK (chkX p x ts) (brkM p (doM p x) ts) from rfl] at hR
  have HR := Lib.hid hR
  obtain ⟨e, he⟩ : ∃ e, chkX p x ts = e := ⟨_, rfl⟩
  have hok := fun h : e = 0 => chkX_ok.1 (he.trans h)
  rw [he] at HR
  have HE := Lib.hid he
  obtain ⟨pa, pc, rfl, _⟩ := hp
  obtain ⟨xa, xc, rfl, _⟩ := hx
  obtain ⟨⟨ta, tc, rfl, _⟩, _⟩ := ht
  clear hR he
  by_cases h0 : e = 0
  rotate_left
  · rw [ifOK_err h0] at HR
    have t1 : (e != 0) = true := by simpa using h0
    clear hok h0
    go_enter Tryz.func74, Tryz.ntmps74
    go_wp2_with fail
    refine checked_any p x ts _ _ _ _ HP.out HX.out HT.out _ ?_
    intro w1 hg1
    rw [HE.out]
    have HF := Lib.hid (HR.out w1 (.slice none 0 0) hg1 (SlcAt.nil _ _ _))
    clear hg1
    go_wp2_with fail
    exact HF.out
  obtain ⟨hv, hvx, hvt, hoff⟩ := hok h0
  subst h0
  rw [ifOK_ok] at HR
  have hxv := valX_ok.1 hvx
  have hp8 := (valP_ok.1 hv).1
  have HD1 := Lib.hid (chkT_ok.2 ⟨doM_ok (x := x) hv (fun e he => by
    obtain ⟨i, hi⟩ := List.getElem?_of_mem he
    exact (edsOK_at hxv.2 hi).2.2), hvt⟩)
  have HD2 := Lib.hid (chkT_ok.2 ⟨hv, hvt⟩)
  have HXV := Lib.hid hxv
  have HOFF := Lib.hid hoff
  obtain ⟨q, hq⟩ : ∃ q, doM p x = q := ⟨_, rfl⟩
  rw [hq] at HR HD1
  have HQ := Lib.hid hq
  clear hok hv hvx hvt hoff hxv hq
  go_enter Tryz.func74, Tryz.ntmps74
  go_wp2_with fail
  refine checked_any p x ts _ _ _ _ HP.out HX.out HT.out _ ?_
  intro w1 hg1
  rw [HE.out]
  have HG1 := Lib.hid hg1
  clear hg1
  go_wp2_with fail
  refine do_any p x _ _ _ (HP.out.grow HG1.out) (HX.out.grow HG1.out) hp8 HXV.out.2 HXV.out.1 HOFF.out _ ?_
  intro w2 v2 hg2 _ hv2
  rw [HQ.out] at hv2
  have HV2 := Lib.hid hv2
  obtain ⟨a2, c2, rfl, _⟩ := hv2
  have HG2 := Lib.hid (HG1.out.trans hg2)
  clear hg2
  go_wp2_with fail
  refine turned_any q p ts _ _ _ _ HV2.out (HP.out.grow HG2.out) (HT.out.grow HG2.out) HD1.out HD2.out _ ?_
  intro w3 v3 hg3 hv3
  have HF := Lib.hid (HR.out w3 v3 (HG2.out.trans hg3) hv3)
  clear hg3 hv3
  go_wp2_with fail
  exact HF.out

set_option maxHeartbeats 4000000 in
theorem kills_any (p : List Ln) (ts : List Tst) (t op d a b : Int) (pv tv : Value) (w : World) (hp : LinesAt w pv p) (ht : TestsAt w tv ts) (R : Ending → World → Prop)
    (hR : ∀ w' v, Grow w w' → IntsAt w' v (brkO p [⟨t, ⟨op, d, a, b⟩⟩] ts) → R (.returned v) w') :
    Calls Tryz.prog 48 #[pv, tv, .agg #[.int .i64 t, .int .i64 op, .int .i64 d, .int .i64 a, .int .i64 b]] w R := by
  have HP := Lib.hid hp
  have HT := Lib.hid ht
  have HR := Lib.hid hR
  obtain ⟨e, he⟩ : ∃ e, chkX p [⟨t, ⟨op, d, a, b⟩⟩] ts = e := ⟨_, rfl⟩
  have HE := Lib.hid he
  obtain ⟨pa, pc, rfl, _⟩ := hp
  obtain ⟨⟨ta, tc, rfl, _⟩, _⟩ := ht
  clear hR he
  go_enter Tryz.func48, Tryz.ntmps48
  go_wp2_with fail
  have hg := (Grow.refl w).alloc (.cells #[.int .i64 t, .int .i64 op, .int .i64 d, .int .i64 a, .int .i64 b] 46)
  have hsz : (w.alloc (.cells #[.int .i64 t, .int .i64 op, .int .i64 d, .int .i64 a, .int .i64 b] 46)).heap.size = w.heap.size + 1 := by simp
  generalize w.alloc (.cells #[.int .i64 t, .int .i64 op, .int .i64 d, .int .i64 a, .int .i64 b] 46) = W at hg hsz ⊢
  have hlit := edits_lit W t op d a b 46
  rw [hsz] at hlit
  refine Breaks_any p [⟨t, ⟨op, d, a, b⟩⟩] ts _ _ _ _ (HP.out.grow (hg.alloc _)) hlit (HT.out.grow (hg.alloc _)) _ ?_
  intro w1 v1 hg1 hv1
  rw [HE.out]
  have HF := Lib.hid (HR.out w1 v1 ((hg.alloc _).trans hg1) hv1)
  obtain ⟨a1, c1, rfl, _⟩ := hv1
  clear hg1 hlit hg hsz
  go_wp2_with fail
  exact HF.out

/-- The errors of Kills, and what it answers. -/
def kilE (p : List Ln) (ts : List Tst) (m : Ed) : Int := if chkT p ts = 0 then (if inB m.at_ 0 ((p.length : Int) - 1) then (if (tmpl (lineAt p m.at_)).contains m.l then 0 else 1) else 4) else chkT p ts
def kilO (p : List Ln) (ts : List Tst) (m : Ed) : List Int := ifOK (kilE p ts m) (brkM p (setAll p [m]) ts)
theorem kilE_ok {p : List Ln} {ts : List Tst} {m : Ed} : kilE p ts m = 0 ↔ (valP p = 0 ∧ valT ts = 0) ∧ (0 ≤ m.at_ ∧ m.at_ < p.length) ∧ m.l ∈ tmpl (lineAt p m.at_) := by
  unfold kilE
  rw [← chkT_ok]
  by_cases h1 : chkT p ts = 0
  · cases h2 : inB m.at_ 0 ((p.length : Int) - 1) with
    | false => have := inB_false.1 h2; simp [h1]; intro h3 h4; omega
    | true =>
      have := inB_true.1 h2
      cases h3 : (tmpl (lineAt p m.at_)).contains m.l with
      | false =>
        have h4 : ¬ m.l ∈ tmpl (lineAt p m.at_) := by rw [← List.contains_iff_mem, h3]; simp
        simp [h1, h4]
      | true =>
        have h4 : m.l ∈ tmpl (lineAt p m.at_) := List.contains_iff_mem.1 h3
        simp [h1, h4]; omega
  · simp [h1]
theorem brkO_kil {p : List Ln} {ts : List Tst} {m : Ed} (h : kilE p ts m = 0) : chkX p [m] ts = 0 ∧ brkO p [m] ts = brkM p (setAll p [m]) ts := by
  obtain ⟨⟨hv, hvt⟩, ⟨h0, h1⟩, h2⟩ := kilE_ok.1 h
  obtain ⟨t, l⟩ := m
  dsimp only at h0 h1 h2
  have hc := chkX_one hv hvt h0 h1 (tmpl_ok h2)
  have h8 := (valP_ok.1 hv).1
  refine ⟨hc, ?_⟩
  unfold brkO
  rw [hc, ifOK_ok, setAll_eq (edsOK_one h0 (by omega) (tmpl_ok h2))]

end Go.Proofs.YtfbfkkaepgcggaaGreat
