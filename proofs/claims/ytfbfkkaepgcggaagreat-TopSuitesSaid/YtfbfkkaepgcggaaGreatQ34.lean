/-
The walk of the library's DeleteFunc on numbers, for a function value that answers of the list's own numbers.
The walks of package suite: all sets of numbers.
The walks of package suite: goals that exclude each other.
The walk of suite.Excluding.
-/
import Derived.Test.YtfbfkkaepgcggaaGreatQ15
import Derived.Test.YtfbfkkaepgcggaaGreatQ32
import Derived.Test.YtfbfkkaepgcggaaGreatQ06
namespace Go.Proofs.YtfbfkkaepgcggaaGreat
open Go.RowKit

/-- A function value that answers pr on the numbers of a list, as long as Inv holds. -/
def PredM (g : Nat) (cb : Array Value) (pr : Int → Bool) (Inv : World → Prop) (xs : List Int) : Prop :=
  ∀ x ∈ xs, ∀ W : World, Inv W → ∀ R : Ending → World → Prop, (∀ W', Grow W W' → R (.returned (.bool (pr x))) W') → Calls Tryz.prog g (#[.int .i64 x] ++ cb) W R
theorem inv_setCells {Inv : World → Prop} {g : Nat} (hS : ∀ W k v, Inv W → Inv (W.setCell ⟨g, k, none⟩ v)) : ∀ (vs : List Value) (o : Nat) (w : World), Inv w → Inv (w.setCells g o vs)
  | [], _, _, h => h
  | _ :: vs, o, _, h => inv_setCells hS vs (o + 1) _ (hS _ _ _ h)
set_option maxRecDepth 100000 in
set_option maxHeartbeats 8000000 in
theorem deleteU_any (f : Nat) (cb : Array Value) (eg : Enters Tryz.prog f) (pr : Int → Bool) (Inv : World → Prop) (hI : ∀ W W', Inv W → Grow W W' → Inv W') (xs : List Int) (hp : PredM f cb pr Inv xs) (g n cap B : Nat) (hS : ∀ W k v, Inv W → Inv (W.setCell ⟨g, k, none⟩ v)) (w : World) (hn : xs.length = n) (hcap : n ≤ cap) (hm : cap ≤ 9223372036854775807) (hrow : RowI w g xs) (hg : g < w.heap.size) (hB : B ≤ g) (hi : Inv w) (R : Ending → World → Prop)
    (hR : ∀ w', Below B w w' → g < w'.heap.size → RowI w' g (keepI pr xs) → Inv w' → R (.returned (.slice (some ⟨g, 0, none⟩) (keepI pr xs).length cap)) w') :
    Calls Tryz.prog 36 #[.slice (some ⟨g, 0, none⟩) n cap, .func (.func f) #[] cb] w R := by
  have HN := Lib.hid hn
  have HROW := Lib.hid hrow
  have HR := Lib.hid hR
  have HI := Lib.hid hI
  have HS := Lib.hid hS
  have HP := Lib.hid hp
  have HI0 := Lib.hid hi
  have hv := hrow.ints hg (by rw [hn]; exact hcap) hm
  rw [hn] at hv
  have HV := Lib.hid hv
  have EG := Lib.hid eg
  unfold Enters at eg
  clear hn hrow hR hI hS hp hi hv
  go_enter Tryz.func36, Tryz.ntmps36
  go_wp2_with fail
  refine indexFuncU_any f cb EG.out pr xs _ _ HV.out (fun x hx W hgW R hR => HP.out x hx W (HI.out _ _ HI0.out hgW) R hR) _ ?_ ?_
  · intro w1 k hg1 hkx hpx' hno
    have hkn : k < n := by rw [← HN.out]; exact hkx
    obtain ⟨x, hx⟩ : ∃ x, xs[k]? = some x := ⟨_, List.getElem?_eq_getElem hkx⟩
    have hpx := hpx' x hx
    clear hpx' hkx
    have hst : keepI pr (xs.take (k + 1)) = xs.take k := by
      rw [keepI_snoc hx, hpx, if_pos rfl, List.append_nil]; exact keepI_all hno
    have HST := Lib.hid hst
    have HG1 := Lib.hid hg1
    have hgw1 : g < w1.heap.size := by have := hg1.sz; omega
    have t1 : ((k : Int) == -1) = false := by simp
    have t2 : ((k : Int) != -1) = true := by simp
    clear hx hpx hno hst hg1
    go_wp2_with fail
    go_loopw [5, 6, 7] (fun iv jv _ wr => ∃ (m q : Nat) (ys : List Int), iv = .int .i64 m ∧ jv = .int .i64 q ∧ q ≤ n ∧ m < q ∧ Below B w wr ∧ g < wr.heap.size ∧ Inv wr ∧ RowI wr g ys ∧ ys.length = n ∧ ys.take m = keepI pr (xs.take q) ∧ (keepI pr (xs.take q)).length = m ∧ ys.drop q = xs.drop q) (fun _ jv _ _ => n - (intOf jv).toNat)
    case atStart =>
      refine ⟨k, k + 1, xs, rfl, by go_num, by omega, by omega, HG1.out.below (by omega), hgw1, HI.out _ _ HI0.out HG1.out, HROW.out.grow HG1.out hg, HN.out, HST.out.symm, ?_, rfl⟩
      rw [HST.out, List.length_take, HN.out]; omega
    case round =>
      obtain ⟨m, q, ys, rfl, rfl, hq, hmq, hb2, hgw2, hin, hrw2, hyl, htk, hml, hdr⟩ := hrel
      have HB2 := Lib.hid hb2
      have HIN := Lib.hid hin
      have HRW2 := Lib.hid hrw2
      have HYL := Lib.hid hyl
      have HTK := Lib.hid htk
      have HML := Lib.hid hml
      have HDR := Lib.hid hdr
      clear hb2 hin hrw2 hyl htk hml hdr t1 t2
      by_cases hql : q < n
      · have hqn : (q : Int) < (n : Int) := by omega
        have hmn : m < n := by omega
        have hmn2 : (m : Int) < (n : Int) := by omega
        obtain ⟨x, hx⟩ : ∃ x, xs[q]? = some x := ⟨_, List.getElem?_eq_getElem (by rw [HN.out]; exact hql)⟩
        have hy2 : ys[q]? = some x := by
          have h := congrArg (fun l => l[0]?) HDR.out
          simp only [List.getElem?_drop, Nat.add_zero] at h
          rw [h]; exact hx
        obtain ⟨c0, _⟩ := HRW2.out q x hy2
        have hsn := keepI_snoc (pr := pr) hx
        have HSN := Lib.hid hsn
        have hdr1 : ys.drop (q + 1) = xs.drop (q + 1) := by
          have h := congrArg (fun l => l.drop 1) HDR.out
          simp only [List.drop_drop] at h
          exact h
        have HDR1 := Lib.hid hdr1
        have HMEM := Lib.hid (List.mem_of_getElem? hx)
        clear hx hy2 hsn hdr1
        cases hpx : pr x with
        | true =>
          have HPX := Lib.hid hpx
          clear hpx
          go_wp2_with fail
          refine HP.out x HMEM.out _ HIN.out _ ?_
          intro w2 hg2
          rw [HPX.out]
          have HG2 := Lib.hid hg2
          clear hg2
          go_wp2_with fail
          go_roundw
          case rel =>
            refine ⟨m, q + 1, ys, rfl, by go_num, by omega, by omega, Below.of_grow HB2.out HG2.out (by omega), by have := HG2.out.sz; omega, HI.out _ _ HIN.out HG2.out, HRW2.out.grow HG2.out hgw2, HYL.out, ?_, ?_, HDR1.out⟩
            · rw [HSN.out, HPX.out, if_pos rfl, List.append_nil]; exact HTK.out
            · rw [HSN.out, HPX.out, if_pos rfl, List.append_nil]; exact HML.out
          case measure => simp [intOf]; omega
        | false =>
          have HPX := Lib.hid hpx
          clear hpx
          go_wp2_with fail
          refine HP.out x HMEM.out _ HIN.out _ ?_
          intro w2 hg2
          rw [HPX.out]
          have HG2 := Lib.hid hg2
          have hrw3 := HRW2.out.grow HG2.out hgw2
          have hgw3 : g < w2.heap.size := by have := HG2.out.sz; omega
          obtain ⟨y, hmy⟩ : ∃ y, ys[m]? = some y := ⟨_, List.getElem?_eq_getElem (by rw [HYL.out]; exact hmn)⟩
          obtain ⟨m0, z0⟩ := hrw3 m y hmy
          have HRW3 := Lib.hid hrw3
          clear hg2 hrw3 hmy
          go_wp2_with fail
          go_roundw
          case rel =>
            have hrs := HRW3.out.set (k := m) (by rw [HYL.out]; exact hmn) x
            refine ⟨m + 1, q + 1, ys.set m x, by go_num, by go_num, by omega, by omega, Below.setCell (Below.of_grow HB2.out HG2.out (by omega)) hB _, ?_, HS.out _ _ _ (HI.out _ _ HIN.out HG2.out), hrs, by rw [List.length_set]; exact HYL.out, ?_, ?_, ?_⟩
            · simp only [World.size_setCell]; exact hgw3
            · rw [HSN.out, HPX.out, if_neg (by simp), ← HTK.out, List.take_add_one, List.take_set, List.getElem?_set_self (by rw [HYL.out]; exact hmn), List.set_eq_of_length_le (by simp; omega)]; rfl
            · rw [HSN.out, HPX.out, if_neg (by simp), List.length_append]; have := HML.out; simp; omega
            · rw [List.drop_set_of_lt (by omega)]; exact HDR1.out
          case measure => simp [intOf]; omega
      · have hqe : q = n := by omega
        subst hqe
        have hcl : ∀ ty, (Builtin.clear_ #[25] ty #[.slice (some ⟨g, m, none⟩) (q - m) (cap - m)]).run Tryz.prog wr = .ok (.tuple #[]) (wr.setCells g m (zerosI (q - m))) := fun ty =>
          run_clear_ints wr ty g m (q - m) (cap - m) (by omega) (fun t ht => (HRW2.out.isSome (by rw [HYL.out]; omega)).1) (fun t ht => (HRW2.out.isSome (by rw [HYL.out]; omega)).2)
        have hfin := HRW2.out.cleared m (q - m)
        rw [HTK.out] at hfin
        have hlen : m = (keepI pr (xs.take q)).length := by
          rw [← HTK.out, List.length_take, HYL.out]; omega
        have hall : keepI pr (xs.take q) = keepI pr xs := by rw [List.take_of_length_le (by rw [HN.out]; exact Nat.le_refl _)]
        rw [hall] at hfin hlen
        have hf := HR.out _ (below_setCells g hB _ _ _ HB2.out) (by rw [size_setCells']; exact hgw2) hfin (inv_setCells HS.out _ _ _ HIN.out)
        rw [← hlen] at hf
        have HF := Lib.hid hf
        have hm2 : (m : Int) ≤ (q : Int) := by omega
        have hm4 : m ≤ q := by omega
        have hm5 : m ≤ cap := by omega
        clear hf hfin hlen hall
        go_wp2_with fail
        exact HF.out
  · intro w1 hg1 hno
    have hall := keepI_all hno
    have hf := HR.out w1 (hg1.below (by omega)) (by have := hg1.sz; omega) (by rw [hall]; exact HROW.out.grow hg1 hg) (HI.out _ _ HI0.out hg1)
    rw [hall, HN.out] at hf
    have HF := Lib.hid hf
    clear hf hall hno hg1
    go_wp2_with fail
    exact HF.out
set_option maxHeartbeats 2000000 in
theorem deleteU_none (f : Nat) (cb : Array Value) (eg : Enters Tryz.prog f) (pr : Int → Bool) (Inv : World → Prop) (hI : ∀ W W', Inv W → Grow W W' → Inv W') (hp : PredM f cb pr Inv []) (w : World) (hi : Inv w) (R : Ending → World → Prop) (hR : ∀ w', Grow w w' → R (.returned (.slice none 0 0)) w') :
    Calls Tryz.prog 36 #[.slice none 0 0, .func (.func f) #[] cb] w R := by
  have HR := Lib.hid hR
  have HI := Lib.hid hI
  have HP := Lib.hid hp
  have HI0 := Lib.hid hi
  have EG := Lib.hid eg
  unfold Enters at eg
  clear hR hI hp hi
  go_enter Tryz.func36, Tryz.ntmps36
  go_wp2_with fail
  refine indexFuncU_any f cb EG.out pr [] _ _ (SlcAt.nil _ _ _) (fun x hx => by cases hx) _ ?_ ?_
  · intro w1 k hg1 hx _ _
    simp at hx
  · intro w1 hg1 _
    have HF := Lib.hid (HR.out w1 hg1)
    clear hg1
    go_wp2_with fail
    exact HF.out

/-- DeleteFunc on a list that the call has made. -/
theorem deleteO_any (f : Nat) (cb : Array Value) (eg : Enters Tryz.prog f) (pr : Int → Bool) (Inv : World → Prop) (hI : ∀ W W', Inv W → Grow W W' → Inv W') (xs : List Int) (hp : PredM f cb pr Inv xs) (base B : Nat) (hB : B ≤ base) (v : Value) (w : World) (hBw : B ≤ w.heap.size) (ho : OwnI base w v xs) (hS : ∀ g, base ≤ g → g < w.heap.size → (∃ a n c, v = .slice (some ⟨g, a, none⟩) n c) → ∀ W k u, Inv W → Inv (W.setCell ⟨g, k, none⟩ u)) (hi : Inv w) (R : Ending → World → Prop)
    (hR : ∀ w' v', Below B w w' → IntsAt w' v' (keepI pr xs) → (∀ a n c, v' = .slice (some a) n c → base ≤ a.block ∧ a.block < w'.heap.size) → (∃ a c, v' = .slice a (keepI pr xs).length c) → R (.returned v') w') :
    Calls Tryz.prog 36 #[v, .func (.func f) #[] cb] w R := by
  obtain ⟨e, hrow⟩ := ho
  have hs := slc_of_owns encI_len hrow
  obtain ⟨a, c, rfl, q1, q2, _⟩ := hs
  rcases hrow.2 with ⟨hv, h0⟩ | ⟨g, cap, cur, hv, hbg, hh, _⟩
  · obtain ⟨rfl, _, rfl⟩ : a = none ∧ xs.length = 0 ∧ c = 0 := by simpa using hv
    have hA0 : xs = [] := List.length_eq_zero_iff.1 h0
    subst hA0
    refine deleteU_none f cb eg pr Inv hI hp w hi _ ?_
    intro w3 hg3
    exact hR w3 _ (hg3.below hBw) (SlcAt.nil _ _ _) (fun a n c h => by cases h) ⟨none, 0, rfl⟩
  · cases hv
    have hgs : g < w.heap.size := lt_of_block hh
    refine deleteU_any f cb eg pr Inv hI xs hp g xs.length c B (hS g hbg hgs ⟨_, _, _, rfl⟩) w rfl q1 q2 (RowI.of_own hrow) hgs (Nat.le_trans hB hbg) hi _ ?_
    intro w3 hb3 hg3 hr3 _
    have hle : (keepI pr xs).length ≤ xs.length := List.length_filter_le _ _
    exact hR w3 _ hb3 (hr3.ints hg3 (Nat.le_trans hle q1) q2) (fun a n c h => by cases h; exact ⟨hbg, hg3⟩) ⟨_, _, rfl⟩
end Go.Proofs.YtfbfkkaepgcggaaGreat

namespace Go.Proofs.YtfbfkkaepgcggaaGreat
open Go.RowKit

theorem info_sli8 : (Tryz.prog.info? 25).map (fun i => (i.zero, i.size, i.bytes)) = some (some (.slice none 0 0), 1, 24) := by kernel_rfl
/-- What sets asks of a number: is its digit zero. -/
def digB (s : Nat) (x : Int) : Bool := (bits .and .i64 ((s : Int) / 2 ^ min x.toNat 64) 1 == 0)
set_option maxRecDepth 100000 in
set_option maxHeartbeats 4000000 in
theorem sets1_any (s k b1 : Nat) (w : World) (h1 : w.heap[b1]? = some (.cells #[.int .i64 (s : Int)] 3 (0, 0))) (R : Ending → World → Prop) (hR : ∀ w', Grow w w' → R (.returned (.bool (digB s (k : Int)))) w') :
    Calls Tryz.prog 55 #[.int .i64 (k : Int), .pointer (some ⟨b1, 0, none⟩)] w R := by
  have e1 := box1 h1
  have z1 := lt_of_block h1
  have HR := Lib.hid hR
  have HF := Lib.hid (HR.out w (Grow.refl _))
  unfold digB at HF
  rw [Int.toNat_natCast] at HF
  have t1 : ¬ (k : Int) < 0 := by omega
  clear hR h1
  go_enter Tryz.func55, Tryz.ntmps55
  go_wp2_with fail
  trace_state
  exact HF.out
set_option maxRecDepth 100000 in
set_option maxHeartbeats 8000000 in
theorem sets_any (n : Nat) (hn : n ≤ 10) (w : World) (R : Ending → World → Prop) (hR : ∀ w' v (F : List (List Nat)), Grow w w' → FamAt w' v (F.map natL) → (∀ S ∈ F, S.length ≤ n ∧ ∀ x ∈ S, x < n) → R (.returned v) w') :
    Calls Tryz.prog 25 #[.int .i64 (n : Int)] w R := by
  have HR := Lib.hid hR
  have eg : Enters Tryz.prog 55 := enters_of Tryz.func55 (by kernel_rfl) rfl
  have EG := Lib.hid eg
  obtain ⟨M, hM⟩ : ∃ M, 2 ^ n = M := ⟨_, rfl⟩
  have hM2 : M ≤ 1024 := by rw [← hM]; exact Nat.pow_le_pow_right (n := 2) (by decide) hn
  have hw : wrap64 (2 ^ n) = (M : Int) := by
    have e : ((2 : Int) ^ n) = (M : Int) := by rw [← hM]; exact (Int.natCast_pow 2 n).symm
    rw [e, ← IntWalk.i64_left]
    exact IntWalk.i64_in _ (by omega)
  have HW := Lib.hid hw
  clear hR eg hM hw
  go_enter Tryz.func25, Tryz.ntmps25
  go_wp2_with fail
  rw [HW.out]
  go_loopw [3, 4, 7] (fun out _ i wr => ∃ (j : Nat) (L : List (Lo Int)) (F : List (List Nat)), j ≤ M ∧ i = .int .i64 j ∧ Grow w wr ∧ LoOwn w.heap.size 25 1 encI wr out L ∧ L.length = j ∧ L.map Lo.x = F.map natL ∧ ∀ S ∈ F, S.length ≤ n ∧ ∀ x ∈ S, x < n) (fun _ _ i _ => M - (intOf i).toNat)
  case atStart => exact ⟨0, [], [], Nat.zero_le _, rfl, Grow.refl _, LoOwn.nil _ _ _ _ _, rfl, rfl, by simp⟩
  case round =>
    obtain ⟨j, L, F, hj, rfl, hg, ho, hl, hmp, hF⟩ := hrel
    have HG := Lib.hid hg
    have HO := Lib.hid ho
    have HL := Lib.hid hl
    have HMP := Lib.hid hmp
    have HFX := Lib.hid hF
    have hzj := hg.sz
    clear hg ho hl hmp hF
    by_cases hlt : j < M
    · have hlt2 : (j : Int) < (M : Int) := by omega
      go_wp2_with fail
      have hb := heap_alloc_new wr (.cells #[.int .i64 (j : Int)] 3)
      have hg := (Grow.refl wr).alloc (.cells #[.int .i64 (j : Int)] 3)
      have hz : (wr.alloc (.cells #[.int .i64 (j : Int)] 3)).heap.size = wr.heap.size + 1 := by simp
      generalize wr.alloc (.cells #[.int .i64 (j : Int)] 3) = W2 at hb hg hz ⊢
      have HB := Lib.hid hb
      have HG2 := Lib.hid hg
      clear hb hg
      refine uall_any n (by omega) _ _ ?_
      intro w3 v3 hg3 ho3
      have HG3 := Lib.hid (HG2.out.trans hg3)
      have HB3 := Lib.hid (hg3.blk HB.out)
      have hz3 := hg3.sz
      have HO3 := Lib.hid ho3
      clear hg3 ho3
      have hp : PredM 55 #[.pointer (some ⟨wr.heap.size, 0, none⟩)] (digB j) (fun X => X.heap[wr.heap.size]? = some (.cells #[.int .i64 (j : Int)] 3 (0, 0))) (natL (List.range n)) := by
        intro x hx X hX R' hR'
        obtain ⟨m, hm, rfl⟩ := natL_mem.1 hx
        exact sets1_any j m wr.heap.size X hX R' hR'
      obtain ⟨a3, c3, hve, q31, q32, jk⟩ := HO3.out.slc encI_len
      subst hve
      clear jk
      have HP := Lib.hid hp
      clear hp
      go_wp2_with fail
      refine deleteO_any 55 _ EG.out (digB j) (fun X => X.heap[wr.heap.size]? = some (.cells #[.int .i64 (j : Int)] 3 (0, 0))) (fun X X' h g => g.blk h) (natL (List.range n)) HP.out W2.heap.size wr.heap.size (by omega) _ w3 (by omega) HO3.out (fun g hg1 hg2 _ X k u hX => by
        rw [Below.heap_setCell _ _ _ _ (by show wr.heap.size ≠ g; omega)]; exact hX) HB3.out _ ?_
      intro w4 v4 hb4 hi4 hn4 hv4
      obtain ⟨a4, c4, rfl⟩ := hv4
      have hg4 : Grow wr w4 := Below.trans HG3.out hb4
      have hkp : keepI (digB j) (natL (List.range n)) = natL ((List.range n).filter fun m : Nat => !digB j (m : Int)) := by
        unfold keepI natL
        rw [List.filter_map]
        rfl
      rw [hkp] at hi4 ⊢
      obtain ⟨S, hS⟩ : ∃ S, (List.range n).filter (fun m : Nat => !digB j (m : Int)) = S := ⟨_, rfl⟩
      have HSN := Lib.hid (show S.length ≤ n ∧ ∀ x ∈ S, x < n from ⟨by rw [← hS]; exact Nat.le_trans (List.length_filter_le _ _) (by rw [List.length_range]; exact Nat.le_refl _), fun x hx => by rw [← hS] at hx; exact List.mem_range.1 (List.mem_filter.1 hx).1⟩)
      rw [hS] at hi4 ⊢
      have HI4 := Lib.hid hi4
      have HG4 := Lib.hid (HG.out.trans hg4)
      have HO4 := Lib.hid (HO.out.grow hg4)
      have HOF := Lib.hid (show ∀ b o s, a4 = some ⟨b, o, s⟩ → u3.ownBlock ≠ some b ∧ b < w4.heap.size from fun b o s h => by
        obtain ⟨k1, k2⟩ := hn4 ⟨b, o, s⟩ _ _ (by rw [h])
        dsimp only at k1 k2
        exact ⟨fun he => by have := HO.out.lt he; omega, k2⟩)
      have hz4 := hg4.sz
      have HLE := Lib.hid (show L.length < 100000000000 by have := HL.out; omega)
      clear hb4 hi4 hn4 hg4 hkp hS
      go_wp2_with (at_builtin; refine wpList_appAt8 _ rfl (.tmp 10) (.tmp 15) 22 rfl w.heap.size 25 Tryz.underlying22 info_sli8 rfl (by decide) (by decide) encLo encLo_len encLo_one _ L rfl (((Grow.refl w4).alloc _).owns HO4.out.row) _ (⟨a4, (natL S).length, c4, natL S⟩ : Lo Int) 1 rfl (newsG _ _ (by simp) (encLo (⟨a4, (natL S).length, c4, natL S⟩ : Lo Int)) _) HLE.out (by simp; omega) ?_; intro u5 w5 hown5 hgr5 hat5)
      have hgA := (Grow.refl w4).alloc (.cells #[.slice a4 (natL S).length c4] 25)
      have HG5 := Lib.hid (show Grow w w5 from grown_below HO4.out.row hgr5 (Nat.le_refl _) (by simp; omega) (HG4.out.alloc _))
      have hoff : ∀ b o s, a4 = some ⟨b, o, s⟩ → u3.ownBlock ≠ some b ∧ b < (w4.alloc (.cells #[.slice a4 (natL S).length c4] 25)).heap.size := fun b o s h => ⟨(HOF.out b o s h).1, by have := (HOF.out b o s h).2; simp; omega⟩
      have HO5 := Lib.hid ((HO4.out.grow hgA).app (t := ⟨a4, (natL S).length, c4, natL S⟩) hgr5 hown5 hat5 (HI4.out.grow hgA) hoff)
      clear hown5 hgr5 hat5 hoff hgA
      go_roundw
      case rel => exact ⟨j + 1, L ++ [⟨a4, (natL S).length, c4, natL S⟩], F ++ [S], by omega, by go_num, HG5.out, HO5.out, by rw [List.length_append, HL.out]; rfl, by rw [List.map_append, List.map_append, HMP.out]; rfl, fun S' hS' => by
        rcases List.mem_append.1 hS' with h | h
        · exact HFX.out S' h
        · simp at h; subst h; exact HSN.out⟩
      case measure => simp [intOf]; omega
    · have HF := Lib.hid (HR.out wr _ F HG.out ⟨L, HO.out.at_, HO.out.ins, HMP.out⟩ HFX.out)
      have hlt2 : ¬ (j : Int) < (M : Int) := by omega
      go_wp2_with fail
      exact HF.out
end Go.Proofs.YtfbfkkaepgcggaaGreat

namespace Go.Proofs.YtfbfkkaepgcggaaGreat
open Go.RowKit

/-- A function value that answers pr of the lists of a suite, in every world that comes of w. -/
def PredRw (g : Nat) (cb : Array Value) (w : World) (f : List (List Int)) (pr : List Int → Bool) : Prop :=
  ∀ xs ∈ f, ∀ (v : Value) (W : World), Grow w W → IntsAt W v xs → ∀ R : Ending → World → Prop, (∀ W', Grow W W' → R (.returned (.bool (pr xs))) W') → Calls Tryz.prog g (#[v] ++ cb) W R

set_option maxHeartbeats 2000000 in
theorem indexFuncRw_any (g : Nat) (cb : Array Value) (eg : Enters Tryz.prog g) (pr : List Int → Bool) (f : List (List Int)) (v : Value) (w : World) (hx : FamAt w v f) (hp : PredRw g cb w f pr)
    (R : Ending → World → Prop) (hR1 : ∀ w' (k : Nat), Grow w w' → f.any pr = true → R (.returned (.int .i64 k)) w') (hR2 : ∀ w', Grow w w' → f.any pr = false → R (.returned (.int .i64 (-1))) w') :
    Calls Tryz.prog 76 #[v, .func (.func g) #[] cb] w R := by
  have HX := Lib.hid hx
  obtain ⟨a, c, rfl, h1, h2⟩ := hx.out
  have hm : f.length ≤ 9223372036854775807 := by omega
  have HR1 := Lib.hid hR1
  have HR2 := Lib.hid hR2
  have HP := Lib.hid hp
  unfold Enters at eg
  clear hR1 hR2 hp hx
  go_enter Tryz.func76, Tryz.ntmps76
  go_wp2_with fail
  go_loopw [4, 5, 8] (fun _ _ i wr => ∃ k : Nat, k ≤ f.length ∧ i = .int .i64 k ∧ Grow w wr ∧ ∀ y ∈ f.take k, pr y = false) (fun _ _ i _ => f.length - (intOf i).toNat)
  case atStart => exact ⟨0, Nat.zero_le _, rfl, Grow.refl _, by simp⟩
  case round =>
    obtain ⟨k, hk, rfl, hg, hall⟩ := hrel
    have HALL := Lib.hid hall
    have HG := Lib.hid hg
    clear hall hg
    by_cases hlt : k < f.length
    · obtain ⟨t, ht⟩ : ∃ x, f[k]? = some x := ⟨_, List.getElem?_eq_getElem hlt⟩
      obtain ⟨b, o, ta, tc, rfl, hb, e0, hi⟩ := fam_at (HX.out.grow HG.out) ht
      have HT := Lib.hid ht
      have HI := Lib.hid hi
      have HMEM := Lib.hid (List.mem_of_getElem? ht)
      clear ht hi
      cases hv : pr t with
      | true =>
        have HA := Lib.hid (show f.any pr = true from List.any_eq_true.2 ⟨t, HMEM.out, hv⟩)
        have HV := Lib.hid hv
        clear hv
        go_wp2_with fail
        refine HP.out t HMEM.out _ _ HG.out HI.out _ ?_
        intro w1 hg1
        rw [HV.out]
        have HF := Lib.hid (HR1.out w1 k (HG.out.trans hg1) HA.out)
        clear hg1
        go_wp2_with fail
        exact HF.out
      | false =>
        have HV := Lib.hid hv
        clear hv
        go_wp2_with fail
        refine HP.out t HMEM.out _ _ HG.out HI.out _ ?_
        intro w1 hg1
        rw [HV.out]
        have HG2 := Lib.hid (HG.out.trans hg1)
        have HA2 := Lib.hid (show ∀ y ∈ f.take (k + 1), pr y = false from fun y hy => by
          rw [List.take_add_one, HT.out] at hy
          rcases List.mem_append.1 hy with hy | hy
          · exact HALL.out y hy
          · simp at hy; subst hy; exact HV.out)
        clear hg1
        go_wp2_with fail
        go_roundw
        case rel => exact ⟨k + 1, by omega, by go_num, HG2.out, HA2.out⟩
        case measure => simp [intOf]; omega
    · have HF := Lib.hid (HR2.out _ HG.out (List.any_eq_false.2 fun y hy => by rw [HALL.out y (by rw [List.take_of_length_le (by omega)]; exact hy)]; simp))
      go_wp2_with fail
      exact HF.out

set_option maxHeartbeats 1000000 in
theorem containsFuncRw_any (g : Nat) (cb : Array Value) (eg : Enters Tryz.prog g) (pr : List Int → Bool) (f : List (List Int)) (v : Value) (w : World) (hx : FamAt w v f) (hp : PredRw g cb w f pr)
    (R : Ending → World → Prop) (hR : ∀ w', Grow w w' → R (.returned (.bool (f.any pr))) w') :
    Calls Tryz.prog 57 #[v, .func (.func g) #[] cb] w R := by
  have HR := Lib.hid hR
  clear hR
  go_enter Tryz.func57, Tryz.ntmps57
  go_wp2_with fail
  refine indexFuncRw_any g cb eg pr f v _ hx hp _ ?_ ?_
  · intro w1 k hg1 h
    have HF := Lib.hid (HR.out w1 hg1)
    rw [h] at HF
    have hk : (k : Int) ≥ 0 := by omega
    clear h hg1
    go_wp2_with fail
    exact HF.out
  · intro w1 hg1 h
    have HF := Lib.hid (HR.out w1 hg1)
    rw [h] at HF
    clear h hg1
    go_wp2_with fail
    exact HF.out

/-- How many of some goals a row meets. -/
def cntX (xs : List Int) (A : List Nat) : Nat := cntF (fun g => decide (xs.getD g 0 = 1)) A
theorem cntX_snoc (xs : List Int) (A : List Nat) (g : Nat) : cntX xs (A ++ [g]) = cntX xs A + if xs.getD g 0 = 1 then 1 else 0 := by
  unfold cntX cntF
  rw [List.filter_append, List.length_append, List.filter_cons]
  congr 1
  by_cases h : xs.getD g 0 = 1
  · rw [if_pos h, if_pos (decide_eq_true h)]; rfl
  · rw [if_neg h, if_neg (by simpa using h)]; rfl
theorem cntX_le (xs : List Int) (A : List Nat) : cntX xs A ≤ A.length := List.length_filter_le _ _
set_option maxRecDepth 100000 in
set_option maxHeartbeats 8000000 in
theorem exclude1_any (xs : List Int) (A : List Nat) (b1 : Nat) (v sv : Value) (w : World) (h1 : w.heap[b1]? = some (.cells #[sv] 25 (0, 0))) (hx : IntsAt w v xs) (hs : IntsAt w sv (natL A)) (h01 : ∀ n ∈ xs, 0 ≤ n ∧ n ≤ 1) (hA : ∀ g ∈ A, g < xs.length) (hl : A.length ≤ 1000)
    (R : Ending → World → Prop) (hR : ∀ w', Grow w w' → R (.returned (.bool (decide (1 < cntX xs A)))) w') :
    Calls Tryz.prog 58 #[v, .pointer (some ⟨b1, 0, none⟩)] w R := by
  have HX := Lib.hid hx
  have HS := Lib.hid hs
  have H01 := Lib.hid h01
  have HA := Lib.hid hA
  have HR := Lib.hid hR
  obtain ⟨xa, xc, rfl, x1, x2, _⟩ := hx
  obtain ⟨sa, sc, rfl, s1, s2, _⟩ := hs
  rw [natL_len] at HS s1 h1
  have e1 := box1 h1
  have z1 := lt_of_block h1
  clear hR h01 hA h1
  go_enter Tryz.func58, Tryz.ntmps58
  go_wp2_with fail
  go_loopw [4, 6, 9] (fun cv _ i wr => ∃ k : Nat, k ≤ A.length ∧ i = .int .i64 k ∧ wr = w ∧ cv = .int .i64 (cntX xs (A.take k) : Nat)) (fun _ _ i _ => A.length - (intOf i).toNat)
  case atStart => exact ⟨0, Nat.zero_le _, rfl, rfl, rfl⟩
  case round =>
    obtain ⟨k, hk, rfl, rfl, rfl⟩ := hrel
    have hck : cntX xs (A.take k) ≤ k := Nat.le_trans (cntX_le _ _) (by rw [List.length_take]; omega)
    by_cases hlt : k < A.length
    · obtain ⟨g, hg⟩ : ∃ g, A[k]? = some g := ⟨_, List.getElem?_eq_getElem hlt⟩
      obtain ⟨sb, so, rfl, hsb, e2⟩ := ints_at HS.out (natL_at hg)
      have hgl := HA.out g (List.mem_of_getElem? hg)
      obtain ⟨x, hx⟩ : ∃ x, xs[g]? = some x := ⟨_, List.getElem?_eq_getElem hgl⟩
      obtain ⟨xb, xo, rfl, hxb, e3⟩ := ints_at HX.out hx
      have hx01 := H01.out x (List.mem_of_getElem? hx)
      have hlt2 : (k : Int) < (A.length : Int) := by omega
      have hgl2 : (g : Int) < (xs.length : Int) := by omega
      have hsn : cntX xs (A.take (k + 1)) = cntX xs (A.take k) + if x = 1 then 1 else 0 := by
        rw [List.take_add_one, hg]
        show cntX xs (A.take k ++ [g]) = _
        rw [cntX_snoc, List.getD_eq_getElem?_getD, hx]; rfl
      generalize cntX xs (A.take k) = q at hck hsn ⊢
      have hsum : ((cntX xs (A.take (k + 1)) : Nat) : Int) = (q : Int) + x := by
        rw [hsn]
        by_cases h : x = 1
        · rw [if_pos h, h]; omega
        · rw [if_neg h]; omega
      have q1 : IntKind.i64.wrap ((q : Int) + x) = (q : Int) + x := IntWalk.i64_in _ (by omega)
      have HSUM := Lib.hid hsum
      clear hg hx hsn hsum
      go_wp2_with fail
      go_roundw
      case rel => exact ⟨k + 1, by omega, by go_num, trivial, by rw [HSUM.out]⟩
      case measure => simp [intOf]; omega
    · have hke : k = A.length := by omega
      subst hke
      rw [List.take_length] at hck ⊢
      have HF := Lib.hid (HR.out wr (Grow.refl _))
      generalize cntX xs A = q at HF hck ⊢
      have hd : decide (1 < q) = decide ((1 : Int) < (q : Int)) := decide_eq_decide.2 (by omega)
      rw [hd] at HF
      clear hd
      go_wp2_with fail
      exact HF.out
end Go.Proofs.YtfbfkkaepgcggaaGreat

namespace Go.Proofs.YtfbfkkaepgcggaaGreat
open Go.RowKit

def exclB (T : List (List Int)) (A : List Nat) : Bool := !(T.any fun xs => decide (1 < cntX xs A))
theorem exclB_ok {T : List (List Int)} {A : List Nat} (h : exclB T A = true) {r : Nat} (hr : r < T.length) : cntF (hitS T r) A ≤ 1 := by
  unfold exclB at h
  rw [Bool.not_eq_true', List.any_eq_false] at h
  have hm : T.getD r [] ∈ T := by rw [List.getD_eq_getElem?_getD, List.getElem?_eq_getElem hr]; exact List.getElem_mem hr
  have h1 := h _ hm
  rw [decide_eq_true_eq] at h1
  exact Nat.le_of_not_lt h1
set_option maxHeartbeats 4000000 in
theorem exclude_any (T : List (List Int)) (A : List Nat) (tv sv : Value) (w : World) (hx : FamAt w tv T) (hs : IntsAt w sv (natL A)) (hv : ValS T) (hA : ∀ g ∈ A, g < goalsS T) (hl : A.length ≤ 1000)
    (R : Ending → World → Prop) (hR : ∀ w', Grow w w' → R (.returned (.bool (exclB T A))) w') :
    Calls Tryz.prog 27 #[tv, sv] w R := by
  have HX := Lib.hid hx
  have HS := Lib.hid hs
  have HV := Lib.hid hv
  have HA := Lib.hid hA
  have HR := Lib.hid hR
  have eg : Enters Tryz.prog 58 := enters_of Tryz.func58 (by kernel_rfl) rfl
  have EG := Lib.hid eg
  obtain ⟨sa, sc, rfl, s1, s2, _⟩ := hs
  rw [natL_len] at HS s1 ⊢
  clear hR hx hv hA eg
  go_enter Tryz.func27, Tryz.ntmps27
  go_wp2_with fail
  have hb := heap_alloc_new w (.cells #[.slice sa A.length sc] 25)
  have hg := (Grow.refl w).alloc (.cells #[.slice sa A.length sc] 25)
  generalize w.alloc (.cells #[.slice sa A.length sc] 25) = W at hb hg ⊢
  have HB := Lib.hid hb
  have HG := Lib.hid hg
  clear hb hg
  have hp : PredRw 58 #[.pointer (some ⟨w.heap.size, 0, none⟩)] W T (fun xs => decide (1 < cntX xs A)) := by
    intro xs hxs v X hgX hxv R' hR'
    exact exclude1_any xs A w.heap.size v _ X (hgX.blk HB.out) hxv (HS.out.grow (HG.out.trans hgX)) (HV.out.one xs hxs) (fun g hg => by rw [HV.out.len xs hxs]; exact HA.out g hg) hl R' hR'
  refine containsFuncRw_any 58 _ EG.out _ T _ _ (HX.out.grow HG.out) hp _ ?_
  intro w1 hg1
  have HF := Lib.hid (HR.out w1 (HG.out.trans hg1))
  unfold exclB at HF
  generalize (T.any fun xs => decide (1 < cntX xs A)) = q at HF ⊢
  clear hp hg1
  go_wp2_with fail
  exact HF.out

set_option maxRecDepth 100000 in
set_option maxHeartbeats 16000000 in
theorem Excluding_any (T : List (List Int)) (tv : Value) (w : World) (hx : FamAt w tv T) (hv : ValS T)
    (R : Ending → World → Prop) (hR : ∀ w' v A, Grow w w' → IntsAt w' v (natL A) → (∃ a c, v = .slice a A.length c) → (∀ g ∈ A, g ∈ openH (hitS T) (goalsS T) T.length) → (∀ r, r < T.length → cntF (hitS T r) A ≤ 1) → R (.returned (.tuple #[v, .int .i64 0])) w') :
    Calls Tryz.prog 10 #[tv] w R := by
  have HX := Lib.hid hx
  have HV := Lib.hid hv
  have HR := Lib.hid hR
  have hn8 := hv.rows
  have hol : (openH (hitS T) (goalsS T) T.length).length ≤ 10 := Nat.le_trans (met_len _ _ _) hv.goals
  have HOG := Lib.hid (fun (g : Nat) (h : g ∈ openH (hitS T) (goalsS T) T.length) => (met_lt h : g < goalsS T))
  have hO : ∃ O, openH (hitS T) (goalsS T) T.length = O := ⟨_, rfl⟩
  obtain ⟨O, hO⟩ := hO
  rw [hO] at HR hol HOG
  have HO := Lib.hid hO
  clear hR hx hv hO
  go_enter Tryz.func10, Tryz.ntmps10
  go_wp2_with fail
  refine uValidate_any T _ _ HX.out _ ?_
  intro w1 e hg1 he
  obtain rfl := errS_ok he HV.out
  have HG1 := Lib.hid hg1
  clear hg1 he
  go_wp2_with fail
  refine open_any T _ _ (HX.out.grow HG1.out) HV.out _ ?_
  intro w2 v2 hg2 ho2
  rw [HO.out] at ho2
  have HG2 := Lib.hid (HG1.out.trans hg2)
  have HO2 := Lib.hid (ho2.slc encI_len)
  obtain ⟨oa, oc, rfl, o1, o2, _⟩ := ho2.slc encI_len
  rw [natL_len] at HO2 o1 ⊢
  clear hg2 ho2
  go_wp2_with fail
  refine sets_any O.length hol _ _ ?_
  intro w3 v3 F hg3 hf3 hF
  have HG3 := Lib.hid (HG2.out.trans hg3)
  have HO3 := Lib.hid (HO2.out.grow hg3)
  have HFM := Lib.hid hf3
  have HFX := Lib.hid hF
  obtain ⟨fa, fc, rfl, f1, f2⟩ := hf3.out
  rw [List.length_map] at HFM f1 ⊢
  clear hg3 hf3 hF
  go_wp2_with fail
  go_loopw [6, 8, 9, 11, 23] (fun bv _ _ _ i wr => ∃ (k : Nat) (A : List Nat), k ≤ F.length ∧ i = .int .i64 k ∧ Grow w3 wr ∧ IntsAt wr bv (natL A) ∧ (∃ a c, bv = .slice a A.length c) ∧ (∀ g ∈ A, g ∈ O) ∧ ∀ r, r < T.length → cntF (hitS T r) A ≤ 1) (fun _ _ _ _ i _ => F.length - (intOf i).toNat)
  case atStart => exact ⟨0, [], Nat.zero_le _, rfl, Grow.refl _, SlcAt.nil _ _ _, ⟨_, _, rfl⟩, by simp, fun r _ => by simp [cntF]⟩
  case round =>
    obtain ⟨k, A, hk, rfl, hg, hia, ⟨ba, bc, rfl⟩, hAO, hAX⟩ := hrel
    have HG := Lib.hid hg
    have HIA := Lib.hid hia
    have HAO := Lib.hid hAO
    have HAX := Lib.hid hAX
    clear hg hia hAO hAX
    obtain ⟨w4, rfl⟩ : ∃ w4 : World, w4 = wr := ⟨_, rfl⟩
    by_cases hlt : k < F.length
    · obtain ⟨S, hS⟩ : ∃ S, F[k]? = some S := ⟨_, List.getElem?_eq_getElem hlt⟩
      have hsl10 : S.length ≤ 10 := Nat.le_trans (HFX.out S (List.mem_of_getElem? hS)).1 hol
      have HSX := Lib.hid (HFX.out S (List.mem_of_getElem? hS)).2
      obtain ⟨fb, fo, sa, sc, rfl, hfb, e0, hsi⟩ := fam_at (HFM.out.grow HG.out) (show (F.map natL)[k]? = some (natL S) by rw [List.getElem?_map, hS]; rfl)
      rw [natL_len] at e0 hsi
      have HSI := Lib.hid hsi
      obtain ⟨hsl1, hsl2⟩ := slc_n hsi
      rw [natL_len] at hsl2
      have hlt2 : (k : Int) < (F.length : Int) := by omega
      clear hS hsi hsl1
      go_wp2_with fail
      go_loopw [9, 11, 29] (fun out _ i wr => ∃ (q : Nat) (B : List Nat), q ≤ S.length ∧ i = .int .i64 q ∧ Grow w4 wr ∧ wr.ownsRow w4.heap.size 3 1 out (natL B).length ((natL B).flatMap encI) ∧ B.length = q ∧ ∀ g ∈ B, g ∈ O) (fun _ _ i _ => S.length - (intOf i).toNat)
      case atStart => exact ⟨0, [], Nat.zero_le _, rfl, Grow.refl _, World.ownsRow_nil _ _ _ _, rfl, by simp⟩
      case round =>
        obtain ⟨q, B, hq, rfl, hg, how, hbl, hBO⟩ := hrel
        have HGI := Lib.hid hg
        have HOW := Lib.hid how
        have HBO := Lib.hid hBO
        have hzq := hg.sz
        clear hg how hBO
        by_cases hqlt : q < S.length
        · obtain ⟨x, hx⟩ : ∃ x, S[q]? = some x := ⟨_, List.getElem?_eq_getElem hqlt⟩
          have hxO := HSX.out x (List.mem_of_getElem? hx)
          obtain ⟨sb, so, rfl, hsb, e1⟩ := ints_at (HSI.out.grow HGI.out) (natL_at hx)
          obtain ⟨g, hgO⟩ : ∃ g, O[x]? = some g := ⟨_, List.getElem?_eq_getElem hxO⟩
          obtain ⟨ob, oo, rfl, hob, e2⟩ := ints_at (HO3.out.grow (HG.out.trans HGI.out)) (natL_at hgO)
          have HGM := Lib.hid (List.mem_of_getElem? hgO)
          have hqlt2 : (q : Int) < (S.length : Int) := by omega
          have hxO2 : (x : Int) < (O.length : Int) := by omega
          have HLB := Lib.hid (show (natL B).length < 100000000000 by rw [natL_len]; omega)
          have HBE := Lib.hid (show natL (B ++ [g]) = natL B ++ [(g : Int)] from natL_snoc _ _)
          clear hx hgO
          go_wp2_with (at_builtin; refine wpList_app _ rfl (.tmp 33) (.tmp 38) 25 rfl w4.heap.size 3 Tryz.underlying25 info_int rfl (by decide) (by decide) encI encI_len encI_one _ (natL B) rfl (((Grow.refl _).alloc _).owns HOW.out) _ (g : Int) 1 rfl (newsG _ _ (by simp) (encI (g : Int)) _) HLB.out (by simp; omega) ?_; intro out2 w7 hown7 hgr7)
          have HG10 := Lib.hid (show Grow w4 w7 from grown_below HOW.out hgr7 (Nat.le_refl _) (by simp; omega) (HGI.out.alloc _))
          have HO7 := Lib.hid hown7
          clear hown7 hgr7
          go_roundw
          case rel => exact ⟨q + 1, B ++ [g], by omega, by go_num, HG10.out, by rw [HBE.out]; exact HO7.out, by rw [List.length_append, hbl]; rfl, fun g' hg' => by
            rcases List.mem_append.1 hg' with h | h
            · exact HBO.out g' h
            · simp at h; subst h; exact HGM.out⟩
          case measure => simp [intOf]; omega
        · have hqe : q = S.length := by omega
          have hqlt2 : ¬ (q : Int) < (S.length : Int) := by omega
          have HBI := Lib.hid (slc_of_owns encI_len HOW.out)
          obtain ⟨va, vc, rfl, b1, b2, _⟩ := HBI.out
          rw [natL_len] at HBI b1
          have HB10 := Lib.hid (show B.length ≤ 1000 by omega)
          have hbn : B.length < 1000 := by omega
          have HIA2 := Lib.hid (HIA.out.grow HGI.out)
          have HGR := Lib.hid (HG.out.trans HGI.out)
          have HXR := Lib.hid (HX.out.grow (HG3.out.trans HGR.out))
          obtain ⟨p, hp⟩ : ∃ p, exclB T B = p := ⟨_, rfl⟩
          have HP := Lib.hid hp
          have HBG := Lib.hid (fun g (h : g ∈ B) => HOG.out g (HBO.out g h))
          rw [natL_len]
          clear hqe hp hbl hbn hqlt hq
          by_cases h1 : B.length > A.length
          · have t1 : (A.length : Int) < (B.length : Int) := by omega
            clear h1
            go_wp2_with fail
            refine exclude_any T B _ _ _ HXR.out HBI.out HV.out HBG.out HB10.out _ ?_
            intro w8 hg8
            rw [HP.out]
            have HG8 := Lib.hid (HGR.out.trans hg8)
            have HB8 := Lib.hid (HBI.out.grow hg8)
            have HA8 := Lib.hid (HIA2.out.grow hg8)
            clear hg8
            cases p with
            | true =>
              go_wp2_with fail
              go_roundw
              case rel => exact ⟨k + 1, B, by omega, by go_num, HG8.out, HB8.out, ⟨va, vc, rfl⟩, HBO.out, fun r hr => exclB_ok HP.out hr⟩
              case measure => simp [intOf]; omega
            | false =>
              go_wp2_with fail
              go_roundw
              case rel => exact ⟨k + 1, A, by omega, by go_num, HG8.out, HA8.out, ⟨ba, bc, rfl⟩, HAO.out, HAX.out⟩
              case measure => simp [intOf]; omega
          · have t1 : ¬ (A.length : Int) < (B.length : Int) := by omega
            clear h1
            by_cases h2 : B.length = A.length
            · have t2 : ((B.length : Int) == (A.length : Int)) = true := by rw [beq_iff_eq]; omega
              clear h2
              obtain ⟨c, hc⟩ : ∃ c, cmpIs (natL B) (natL A) = c := ⟨_, rfl⟩
              have HC := Lib.hid hc
              clear hc
              go_wp2_with fail
              refine compareIs_any (natL B) (natL A) _ _ _ HBI.out HIA2.out _ ?_
              rw [HC.out]
              by_cases h3 : c < 0
              · go_wp2_with fail
                refine exclude_any T B _ _ _ HXR.out HBI.out HV.out HBG.out HB10.out _ ?_
                intro w8 hg8
                rw [HP.out]
                have HG8 := Lib.hid (HGR.out.trans hg8)
                have HB8 := Lib.hid (HBI.out.grow hg8)
                have HA8 := Lib.hid (HIA2.out.grow hg8)
                clear hg8
                cases p with
                | true =>
                  go_wp2_with fail
                  go_roundw
                  case rel => exact ⟨k + 1, B, by omega, by go_num, HG8.out, HB8.out, ⟨va, vc, rfl⟩, HBO.out, fun r hr => exclB_ok HP.out hr⟩
                  case measure => simp [intOf]; omega
                | false =>
                  go_wp2_with fail
                  go_roundw
                  case rel => exact ⟨k + 1, A, by omega, by go_num, HG8.out, HA8.out, ⟨ba, bc, rfl⟩, HAO.out, HAX.out⟩
                  case measure => simp [intOf]; omega
              · go_wp2_with fail
                go_roundw
                case rel => exact ⟨k + 1, A, by omega, by go_num, HGR.out, HIA2.out, ⟨ba, bc, rfl⟩, HAO.out, HAX.out⟩
                case measure => simp [intOf]; omega
            · have t2 : ((B.length : Int) == (A.length : Int)) = false := by rw [beq_eq_false_iff_ne]; omega
              clear h2
              go_wp2_with fail
              go_roundw
              case rel => exact ⟨k + 1, A, by omega, by go_num, HGR.out, HIA2.out, ⟨ba, bc, rfl⟩, HAO.out, HAX.out⟩
              case measure => simp [intOf]; omega
    · have HF := Lib.hid (HR.out w4 _ A (HG3.out.trans HG.out) HIA.out ⟨ba, bc, rfl⟩ HAO.out HAX.out)
      have hlt2 : ¬ (k : Int) < (F.length : Int) := by omega
      go_wp2_with fail
      exact HF.out
end Go.Proofs.YtfbfkkaepgcggaaGreat
