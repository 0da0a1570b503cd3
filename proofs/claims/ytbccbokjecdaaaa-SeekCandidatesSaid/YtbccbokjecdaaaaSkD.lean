/- The walks of the library's IndexFunc and DeleteFunc on lines, with the closure of valid. -/
import Derived.Test.YtbccbokjecdaaaaSkC
namespace Go.Proofs.Ytbccbokjecdaaaa
open Go.RowKit

def prL (but x : Ln) : Bool := decide (x = but) || !x.ok
/-- The block of the line that is left out. -/
def ButAt (w : World) (cb : Nat) (but : Ln) : Prop := w.heap[cb]? = some (.cells #[.int .i64 but.op, .int .i64 but.d, .int .i64 but.a, .int .i64 but.b] 23 (0, 0))
theorem ButAt.grow {w w' : World} {cb : Nat} {but : Ln} (h : ButAt w cb but) (g : Grow w w') : ButAt w' cb but := g.blk h
theorem ButAt.store {w : World} {cb g p : Nat} {but : Ln} (h : ButAt w cb but) (hne : cb ≠ g) (l : Ln) : ButAt (storeL w g p l) cb but := (heap_storeL w g p cb l hne).trans h
theorem prF_any (x but : Ln) (cb : Nat) (w : World) (hb : ButAt w cb but) (R : Ending → World → Prop) (hR : ∀ w', Grow w w' → R (.returned (.bool (prL but x))) w') :
    Calls Try.prog 40 #[.agg #[.int .i64 x.op, .int .i64 x.d, .int .i64 x.a, .int .i64 x.b], .pointer (some ⟨cb, 0, none⟩)] w R :=
  validF_any x.op x.d x.a x.b but.op but.d but.a but.b cb w hb R hR

theorem none_take_succ {xs : List Ln} {f : Ln → Bool} {k : Nat} {x : Ln} (h : ∀ l ∈ xs.take k, f l = false) (hx : xs[k]? = some x) (hf : f x = false) : ∀ l ∈ xs.take (k + 1), f l = false := by
  intro l hl
  rw [List.take_add_one, hx] at hl
  rcases List.mem_append.1 hl with hl | hl
  · exact h l hl
  · simp at hl; subst hl; exact hf

set_option maxRecDepth 100000 in
set_option maxHeartbeats 4000000 in
theorem indexF_any (xs : List Ln) (but : Ln) (g n cap cb : Nat) (w : World) (hn : xs.length = n) (hnm : n ≤ 9223372036854775807) (hrow : RowL w g 0 xs) (hg : g < w.heap.size) (hbut : ButAt w cb but) (R : Ending → World → Prop)
    (hR1 : ∀ w' k x, Grow w w' → xs[k]? = some x → prL but x = true → (∀ y ∈ xs.take k, prL but y = false) → R (.returned (.int .i64 (k : Int))) w')
    (hR2 : ∀ w', Grow w w' → (∀ y ∈ xs, prL but y = false) → R (.returned (.int .i64 (-1))) w') :
    Calls Try.prog 48 #[.slice (some ⟨g, 0, none⟩) n cap, .func (.func 40) #[] #[.pointer (some ⟨cb, 0, none⟩)]] w R := by
  have HN := Lib.hid hn
  have HROW := Lib.hid hrow
  have HR1 := Lib.hid hR1
  have HR2 := Lib.hid hR2
  have HBUT := Lib.hid hbut
  have eg := enters_of Try.func40 (by kernel_rfl) rfl
  clear hn hrow hR1 hR2 hbut
  go_enter Try.func48, Try.ntmps48
  go_wp2_with fail
  go_loopw [8] (fun i wr => ∃ k : Nat, k ≤ n ∧ i = .int .i64 k ∧ Grow w wr ∧ ∀ y ∈ xs.take k, prL but y = false) (fun i _ => n - (intOf i).toNat)
  case atStart => exact ⟨0, Nat.zero_le _, rfl, Grow.refl _, by simp⟩
  case round =>
    obtain ⟨k, hk, rfl, hgr, hno⟩ := hrel
    have HG := Lib.hid hgr
    have HNO := Lib.hid hno
    have hz := hgr.sz
    clear hgr hno
    by_cases hlt : k < n
    · obtain ⟨x, hx⟩ : ∃ x, xs[k]? = some x := ⟨_, List.getElem?_eq_getElem (by rw [HN.out]; exact hlt)⟩
      obtain ⟨⟨c0, c1, c2, c3⟩, _⟩ := (HROW.out.grow HG.out hg).at0 (k := k) (op := x.op) (d := x.d) (a := x.a) (b := x.b) hx
      have hgw : g < wr.heap.size := by omega
      have hkn : (k : Int) < (n : Int) := by omega
      have HX := Lib.hid hx
      clear hx
      cases hp : prL but x with
      | true =>
        have HP := Lib.hid hp
        clear hp
        go_wp2_with fail
        refine prF_any x but cb _ (HBUT.out.grow HG.out) _ ?_
        intro w1 hg1
        rw [HP.out]
        have HF := Lib.hid (HR1.out w1 k x (HG.out.trans hg1) HX.out HP.out HNO.out)
        clear hg1
        go_wp2_with fail
        exact HF.out
      | false =>
        have HP := Lib.hid hp
        clear hp
        go_wp2_with fail
        refine prF_any x but cb _ (HBUT.out.grow HG.out) _ ?_
        intro w1 hg1
        rw [HP.out]
        have HG1 := Lib.hid (HG.out.trans hg1)
        clear hg1
        go_wp2_with fail
        go_roundw
        case rel => exact ⟨k + 1, by omega, by go_num, HG1.out, none_take_succ HNO.out HX.out HP.out⟩
        case measure => simp [intOf]; omega
    · have HF := Lib.hid (HR2.out wr HG.out (fun y hy => HNO.out y (by rw [List.take_of_length_le (by rw [HN.out]; omega)]; exact hy)))
      go_wp2_with fail
      exact HF.out

theorem keepL_all {pr : Ln → Bool} {xs : List Ln} (h : ∀ y ∈ xs, pr y = false) : keepL pr xs = xs := by
  unfold keepL
  rw [List.filter_eq_self]
  intro y hy
  rw [h y hy]; rfl

set_option maxRecDepth 100000 in
set_option maxHeartbeats 8000000 in
theorem deleteF_any (xs : List Ln) (but : Ln) (g n cap cb B : Nat) (w : World) (hn : xs.length = n) (hcap : n ≤ cap) (hm : cap ≤ 9223372036854775807) (hrow : RowL w g 0 xs) (hg : g < w.heap.size) (hB : B ≤ g) (hbut : ButAt w cb but) (hne : cb ≠ g) (R : Ending → World → Prop)
    (hR : ∀ w', Below B w w' → g < w'.heap.size → RowL w' g 0 (keepL (prL but) xs) → R (.returned (.slice (some ⟨g, 0, none⟩) (keepL (prL but) xs).length cap)) w') :
    Calls Try.prog 39 #[.slice (some ⟨g, 0, none⟩) n cap, .func (.func 40) #[] #[.pointer (some ⟨cb, 0, none⟩)]] w R := by
  have HN := Lib.hid hn
  have HROW := Lib.hid hrow
  have HR := Lib.hid hR
  have HBUT := Lib.hid hbut
  have eg := enters_of Try.func40 (by kernel_rfl) rfl
  clear hn hrow hR hbut
  go_enter Try.func39, Try.ntmps39
  go_wp2_with fail
  refine indexF_any xs but g n cap cb _ HN.out (by omega) HROW.out hg HBUT.out _ ?_ ?_
  · intro w1 k x hg1 hx hp hno
    have hkn : k < n := by rw [← HN.out]; exact (List.getElem?_eq_some_iff.1 hx).1
    have hst : keepL (prL but) (xs.take (k + 1)) = xs.take k := by
      rw [keepL_snoc hx, hp, if_pos rfl, List.append_nil]; exact keepL_all hno
    have HST := Lib.hid hst
    have HG1 := Lib.hid hg1
    have hgw1 : g < w1.heap.size := by have := hg1.sz; omega
    have t1 : ((k : Int) == -1) = false := by simp
    have t2 : ((k : Int) != -1) = true := by simp
    clear hx hp hno hst hg1
    go_wp2_with fail
    go_loopw [5, 6] (fun iv jv wr => ∃ (m q : Nat) (ys : List Ln), iv = .int .i64 m ∧ jv = .int .i64 q ∧ q ≤ n ∧ m < q ∧ Below B w wr ∧ g < wr.heap.size ∧ ButAt wr cb but ∧ RowL wr g 0 ys ∧ ys.length = n ∧ ys.take m = keepL (prL but) (xs.take q) ∧ m ≤ (keepL (prL but) (xs.take q)).length ∧ ys.drop q = xs.drop q) (fun _ jv _ => n - (intOf jv).toNat)
    case atStart =>
      refine ⟨k, k + 1, xs, rfl, by go_num, by omega, by omega, HG1.out.below (by omega), hgw1, HBUT.out.grow HG1.out, HROW.out.grow HG1.out hg, HN.out, HST.out.symm, ?_, rfl⟩
      rw [HST.out, List.length_take, HN.out]; omega
    case round =>
      obtain ⟨m, q, ys, rfl, rfl, hq, hmq, hb2, hgw2, hbu, hrw2, hyl, htk, hml, hdr⟩ := hrel
      have HB2 := Lib.hid hb2
      have HBU := Lib.hid hbu
      have HRW2 := Lib.hid hrw2
      have HYL := Lib.hid hyl
      have HTK := Lib.hid htk
      have HML := Lib.hid hml
      have HDR := Lib.hid hdr
      clear hb2 hbu hrw2 hyl htk hml hdr t1 t2
      by_cases hql : q < n
      · have hqn : (q : Int) < (n : Int) := by omega
        have hmn : m < n := by omega
        have hmn2 : (m : Int) < (n : Int) := by omega
        obtain ⟨x, hx⟩ : ∃ x, xs[q]? = some x := ⟨_, List.getElem?_eq_getElem (by rw [HN.out]; exact hql)⟩
        have hy2 : ys[q]? = some x := by
          have h := congrArg (fun l => l[0]?) HDR.out
          simp only [List.getElem?_drop, Nat.add_zero] at h
          rw [h]; exact hx
        obtain ⟨⟨c0, c1, c2, c3⟩, _⟩ := HRW2.out.at0 (k := q) (op := x.op) (d := x.d) (a := x.a) (b := x.b) hy2
        have hsn := keepL_snoc (pr := prL but) hx
        have HSN := Lib.hid hsn
        have hdr1 : ys.drop (q + 1) = xs.drop (q + 1) := by
          have h := congrArg (fun l => l.drop 1) HDR.out
          simp only [List.drop_drop] at h
          exact h
        have HDR1 := Lib.hid hdr1
        clear hx hy2 hsn hdr1
        cases hp : prL but x with
        | true =>
          have HP := Lib.hid hp
          clear hp
          go_wp2_with fail
          refine prF_any x but cb _ (HBU.out.grow ((Grow.refl _).alloc _)) _ ?_
          intro w2 hg2
          rw [HP.out]
          have HG2 := Lib.hid (((Grow.refl wr).alloc _).trans hg2)
          clear hg2
          go_wp2_with fail
          go_roundw
          case rel =>
            refine ⟨m, q + 1, ys, rfl, by go_num, by omega, by omega, Below.of_grow HB2.out HG2.out (by omega), by have := HG2.out.sz; omega, HBU.out.grow HG2.out, HRW2.out.grow HG2.out hgw2, HYL.out, ?_, ?_, HDR1.out⟩
            · rw [HSN.out, HP.out, if_pos rfl, List.append_nil]; exact HTK.out
            · rw [HSN.out, HP.out, if_pos rfl, List.append_nil]; exact HML.out
          case measure => simp [intOf]; omega
        | false =>
          have HP := Lib.hid hp
          clear hp
          go_wp2_with fail
          refine prF_any x but cb _ (HBU.out.grow ((Grow.refl _).alloc _)) _ ?_
          intro w2 hg2
          rw [HP.out]
          have hbx := hg2.blk (heap_alloc_new wr (.cells #[.int .i64 x.op, .int .i64 x.d, .int .i64 x.a, .int .i64 x.b] 23))
          obtain ⟨b0, b1, b2, b3⟩ := box4 hbx
          have hzb := lt_of_block hbx
          have HG2 := Lib.hid (((Grow.refl wr).alloc _).trans hg2)
          have hrw3 := HRW2.out.grow HG2.out hgw2
          have hgw3 : g < w2.heap.size := by have := HG2.out.sz; omega
          obtain ⟨⟨mop, md, ma, mb⟩, hmy⟩ : ∃ y, ys[m]? = some y := ⟨_, List.getElem?_eq_getElem (by rw [HYL.out]; exact hmn)⟩
          obtain ⟨⟨m0, m1, m2, m3⟩, ⟨z0, z1, z2, z3⟩⟩ := hrw3.at0 hmy
          have HRW3 := Lib.hid hrw3
          have hne2 : wr.heap.size ≠ g := by omega
          have hne3 : g ≠ wr.heap.size := by omega
          clear hg2 hbx hrw3 hmy
          go_wp2_with fail
          go_roundw
          case rel =>
            have hrs := HRW3.out.set0 (k := m) (by rw [HYL.out]; exact hmn) x
            refine ⟨m + 1, q + 1, ys.set m x, by go_num, by go_num, by omega, by omega, below_storeL (i := m * 4) x (Below.of_grow HB2.out HG2.out (by omega)) hB, ?_, (HBU.out.grow HG2.out).store (p := m * 4) hne x, hrs, by rw [List.length_set]; exact HYL.out, ?_, ?_, ?_⟩
            · simp only [World.size_setCell]; exact hgw3
            · rw [HSN.out, HP.out, if_neg (by simp), ← HTK.out, List.take_add_one, List.take_set, List.getElem?_set_self (by rw [HYL.out]; exact hmn), List.set_eq_of_length_le (by simp; omega)]; rfl
            · rw [HSN.out, HP.out, if_neg (by simp), List.length_append]; have := HML.out; simp; omega
            · rw [List.drop_set_of_lt (by omega)]; exact HDR1.out
          case measure => simp [intOf]; omega
      · have hqe : q = n := by omega
        subst hqe
        have hcl : ∀ ty, (Builtin.clear_ #[29] ty #[.slice (some ⟨g, m * 4, none⟩) (q - m) (cap - m)]).run Try.prog wr = .ok (.tuple #[]) (wr.setCells g (m * 4) (zerosL (q - m))) := fun ty =>
          run_clear_lines wr ty g (m * 4) (q - m) (cap - m) (by omega) (fun t ht => (HRW2.out.isSome (by rw [HYL.out]; omega)).1) (fun t ht => (HRW2.out.isSome (by rw [HYL.out]; omega)).2)
        have hfin := HRW2.out.cleared m (q - m)
        rw [HTK.out] at hfin
        have hlen : m = (keepL (prL but) (xs.take q)).length := by
          rw [← HTK.out, List.length_take, HYL.out]; omega
        have hall : keepL (prL but) (xs.take q) = keepL (prL but) xs := by rw [List.take_of_length_le (by rw [HN.out]; exact Nat.le_refl _)]
        rw [hall] at hfin hlen
        have hf := HR.out _ (below_setCells g hB _ _ _ HB2.out) (by rw [size_setCells']; exact hgw2) hfin
        rw [← hlen] at hf
        have HF := Lib.hid hf
        have hm2 : (m : Int) ≤ (q : Int) := by omega
        have hm4 : m ≤ q := by omega
        have hm5 : m ≤ cap := by omega
        clear hf hfin hlen hall
        go_wp2_with fail
        exact HF.out
  · intro w1 hg1 hno
    have hk := keepL_all hno
    have hf := HR.out w1 (hg1.below (by omega)) (by have := hg1.sz; omega) (by rw [hk]; exact HROW.out.grow hg1 hg)
    rw [hk, HN.out] at hf
    have HF := Lib.hid hf
    clear hf hk hno hg1
    go_wp2_with fail
    exact HF.out
end Go.Proofs.Ytbccbokjecdaaaa
