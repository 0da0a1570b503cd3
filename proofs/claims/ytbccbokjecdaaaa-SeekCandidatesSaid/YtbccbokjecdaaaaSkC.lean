/- The walk of the library's Compact on lines. -/
import Derived.Test.YtbccbokjecdaaaaSkB
namespace Go.Proofs.Ytbccbokjecdaaaa
open Go.RowKit

theorem RowL.at0 {w : World} {g : Nat} {xs : List Ln} (h : RowL w g 0 xs) {k : Nat} {op d a b : Int} (hk : xs[k]? = some ⟨op, d, a, b⟩) :
    (w.cell? ⟨g, k * 4, none⟩ = some (.int .i64 op) ∧ w.cell? ⟨g, k * 4 + 1, none⟩ = some (.int .i64 d) ∧ w.cell? ⟨g, k * 4 + 2, none⟩ = some (.int .i64 a) ∧ w.cell? ⟨g, k * 4 + 3, none⟩ = some (.int .i64 b)) ∧
    (w.frozen? ⟨g, k * 4, none⟩ = false ∧ w.frozen? ⟨g, k * 4 + 1, none⟩ = false ∧ w.frozen? ⟨g, k * 4 + 2, none⟩ = false ∧ w.frozen? ⟨g, k * 4 + 3, none⟩ = false) := by
  have := h.at hk
  simpa using this
theorem RowL.atOff {w : World} {g : Nat} {xs : List Ln} (h : RowL w g 0 xs) {p q : Nat} {op d a b : Int} (hk : xs[p + q]? = some ⟨op, d, a, b⟩) :
    w.cell? ⟨g, p * 4 + q * 4, none⟩ = some (.int .i64 op) ∧ w.cell? ⟨g, p * 4 + q * 4 + 1, none⟩ = some (.int .i64 d) ∧ w.cell? ⟨g, p * 4 + q * 4 + 2, none⟩ = some (.int .i64 a) ∧ w.cell? ⟨g, p * 4 + q * 4 + 3, none⟩ = some (.int .i64 b) := by
  have := (h.at0 hk).1
  rw [show (p + q) * 4 = p * 4 + q * 4 by omega] at this
  exact this
theorem RowL.set0 {w : World} {g : Nat} {xs : List Ln} (h : RowL w g 0 xs) {k : Nat} (hk : k < xs.length) (l : Ln) : RowL (storeL w g (k * 4) l) g 0 (xs.set k l) := by
  have := h.set hk l
  rwa [Nat.zero_add] at this


set_option maxRecDepth 100000 in
set_option maxHeartbeats 16000000 in
theorem compactLn_any (xs : List Ln) (g n cap B : Nat) (w : World) (hn : xs.length = n) (hrow : RowL w g 0 xs) (hg : g < w.heap.size) (hB : B ≤ g) (hcap : n ≤ cap) (hm : cap ≤ 9223372036854775807) (R : Ending → World → Prop)
    (hR : ∀ w', Below B w w' → g < w'.heap.size → RowL w' g 0 (compL xs) → R (.returned (.slice (some ⟨g, 0, none⟩) (compL xs).length cap)) w') :
    Calls Try.prog 33 #[.slice (some ⟨g, 0, none⟩) n cap] w R := by
  have HN := Lib.hid hn
  have HROW := Lib.hid hrow
  have HR := Lib.hid hR
  clear hrow hR hn
  by_cases h2 : n < 2
  · have hc : compL xs = xs := by
      have hl := HN.out
      match xs, hl with
      | [], _ => rfl
      | [x], _ => rfl
      | x :: y :: r, hl => simp at hl; omega
    have hf := HR.out w (Below.refl _ _) hg (by rw [hc]; exact HROW.out)
    rw [hc, HN.out] at hf
    have HF := Lib.hid hf
    clear hf hc
    go_enter Try.func33, Try.ntmps33
    go_wp2_with fail
    exact HF.out
  · have h2i : ¬ (n : Int) < 2 := by omega
    have hnm : n ≤ 9223372036854775807 := by omega
    go_enter Try.func33, Try.ntmps33
    go_wp2_with fail
    go_loopw [3] (fun i wr => ∃ k : Nat, 1 ≤ k ∧ k ≤ n ∧ i = .int .i64 k ∧ Below B w wr ∧ g < wr.heap.size ∧ RowL wr g 0 xs ∧ ∀ j x y, j + 1 < k → xs[j]? = some x → xs[j + 1]? = some y → y ≠ x) (fun i _ => n - (intOf i).toNat)
    case atStart => exact ⟨1, Nat.le_refl _, by omega, rfl, Below.refl _ _, hg, HROW.out, fun j x y hj => by omega⟩
    case round =>
      obtain ⟨k, hk1, hk, rfl, hb, hgw, hrw, hno⟩ := hrel
      have HB := Lib.hid hb
      have HRW := Lib.hid hrw
      have HNO := Lib.hid hno
      clear hb hrw hno
      by_cases hlt : k < n
      · obtain ⟨j, hj⟩ : ∃ j, k = j + 1 := ⟨k - 1, by omega⟩
        have hjk : (k : Int) - 1 = (j : Int) := by omega
        have qw : IntKind.i64.wrap ((k : Int) - 1) = (j : Int) := by rw [hjk]; exact IntWalk.i64_in _ (by omega)
        have hjn : j < n := by omega
        have hjn2 : (j : Int) < (n : Int) := by omega
        have hkn2 : (k : Int) < (n : Int) := by omega
        have hj0 : (0 : Int) ≤ (j : Int) := by omega
        have hk0 : (0 : Int) ≤ (k : Int) := by omega
        have HJ := Lib.hid hj
        obtain ⟨⟨op, d, a, b⟩, hy⟩ : ∃ y, xs[k]? = some y := ⟨_, List.getElem?_eq_getElem (by rw [HN.out]; exact hlt)⟩
        obtain ⟨⟨op', d', a', b'⟩, hx⟩ : ∃ x, xs[j]? = some x := ⟨_, List.getElem?_eq_getElem (by rw [HN.out]; exact hjn)⟩
        obtain ⟨⟨c0, c1, c2, c3⟩, _⟩ := HRW.out.at0 hy
        obtain ⟨⟨e0, e1, e2, e3⟩, _⟩ := HRW.out.at0 hx
        have HX := Lib.hid hx
        have HY := Lib.hid hy
        clear hj hx hy
        by_cases hxy : (⟨op, d, a, b⟩ : Ln) = ⟨op', d', a', b'⟩
        · cases hxy
          obtain ⟨n2, rfl⟩ : ∃ n2, n = k + n2 := ⟨n - k, by omega⟩
          obtain ⟨cc, rfl⟩ : ∃ cc, cap = k + cc := ⟨cap - k, by omega⟩
          have hst : compL (xs.take (k + 1)) = xs.take k := by
            rw [HJ.out, compL_snoc (HX.out) (HJ.out ▸ HY.out), if_pos rfl, List.append_nil]
            exact compL_take_same (j + 1) (by rw [HN.out]; omega) (fun i x y hi hx hy => HNO.out i x y (by have := HJ.out; omega) hx hy)
          have HST := Lib.hid hst
          have hn20 : 0 < n2 := by omega
          clear hst
          go_wp2_with (go_quiet (fail))
          go_loopw [3, 5] (fun kw k2 wr => ∃ (m q : Nat) (ys : List Ln), kw = .int .i64 m ∧ k2 = .int .i64 q ∧ 1 ≤ q ∧ q ≤ n2 ∧ m < k + q ∧ Below B w wr ∧ g < wr.heap.size ∧ RowL wr g 0 ys ∧ ys.length = k + n2 ∧ ys.take m = compL (xs.take (k + q)) ∧ m ≤ (compL (xs.take (k + q))).length ∧ ys.drop (k + q - 1) = xs.drop (k + q - 1)) (fun _ k2 _ => n2 - (intOf k2).toNat)
          case atStart =>
            refine ⟨k, 1, xs, rfl, rfl, Nat.le_refl _, by omega, by omega, below_drewN HB.out _, by simpa using hgw, HRW.out.grow ((Grow.refl _).drewN _) hgw, HN.out, HST.out.symm, ?_, rfl⟩
            rw [HST.out, List.length_take, HN.out]; omega
          case round =>
            obtain ⟨m, q, ys, rfl, rfl, hq1, hq, hmq, hb2, hgw2, hrw2, hyl, htk, hml, hdr⟩ := hrel
            have HB2 := Lib.hid hb2
            have HRW2 := Lib.hid hrw2
            have HYL := Lib.hid hyl
            have HTK := Lib.hid htk
            have HML := Lib.hid hml
            have HDR := Lib.hid hdr
            clear hb2 hrw2 hyl htk hml hdr c0 c1 c2 c3 e0 e1 e2 e3
            by_cases hql : q < n2
            · obtain ⟨t, ht⟩ : ∃ t, q = t + 1 := ⟨q - 1, by omega⟩
              have hqt : (q : Int) - 1 = (t : Int) := by omega
              have qw2 : IntKind.i64.wrap ((q : Int) - 1) = (t : Int) := by rw [hqt]; exact IntWalk.i64_in _ (by omega)
              have htn : t < n2 := by omega
              have htn2 : (t : Int) < (n2 : Int) := by omega
              have hqn2 : (q : Int) < (n2 : Int) := by omega
              have ht0 : (0 : Int) ≤ (t : Int) := by omega
              have hq0 : (0 : Int) ≤ (q : Int) := by omega
              have hmn : m < k + n2 := by omega
              have hmn2 : (m : Int) < ((k + n2 : Nat) : Int) := by omega
              have hmn3 : (m : Int) < (k : Int) + (n2 : Int) := by omega
              have HT := Lib.hid ht
              clear ht
              obtain ⟨⟨op, d, a, b⟩, hy⟩ : ∃ y, xs[k + q]? = some y := ⟨_, List.getElem?_eq_getElem (by rw [HN.out]; omega)⟩
              obtain ⟨⟨op', d', a', b'⟩, hx⟩ : ∃ x, xs[k + t]? = some x := ⟨_, List.getElem?_eq_getElem (by rw [HN.out]; omega)⟩
              have hy2 : ys[k + q]? = some ⟨op, d, a, b⟩ := by
                have h := congrArg (fun l => l[1]?) HDR.out
                simp only [List.getElem?_drop] at h
                rw [show k + q - 1 + 1 = k + q by omega] at h
                rw [h]; exact hy
              have hx2 : ys[k + t]? = some ⟨op', d', a', b'⟩ := by
                have h := congrArg (fun l => l[0]?) HDR.out
                simp only [List.getElem?_drop] at h
                have := HT.out
                rw [show k + q - 1 + 0 = k + t by omega] at h
                rw [h]; exact hx
              obtain ⟨c0, c1, c2, c3⟩ := HRW2.out.atOff hy2
              obtain ⟨e0, e1, e2, e3⟩ := HRW2.out.atOff hx2
              have hsn := compL_snoc (k := k + t) (by exact hx) (by have := HT.out; rw [show k + t + 1 = k + q by omega]; exact hy)
              rw [show k + t + 2 = k + (q + 1) by have := HT.out; omega, show k + t + 1 = k + q by have := HT.out; omega] at hsn
              have HSN := Lib.hid hsn
              clear hy hx hy2 hx2 hsn
              have hdr1 : ys.drop (k + (q + 1) - 1) = xs.drop (k + (q + 1) - 1) := by
                have h := congrArg (fun l => l.drop 1) HDR.out
                simp only [List.drop_drop] at h
                rw [show k + q - 1 + 1 = k + (q + 1) - 1 by omega] at h
                exact h
              have HDR1 := Lib.hid hdr1
              clear hdr1
              by_cases hxy : (⟨op, d, a, b⟩ : Ln) = ⟨op', d', a', b'⟩
              · cases hxy
                go_wp2_with (go_quiet (fail))
                go_roundw
                case rel =>
                  refine ⟨m, q + 1, ys, rfl, by go_num, by omega, by omega, by omega, below_drewN HB2.out _, by simpa using hgw2, HRW2.out.grow ((Grow.refl _).drewN _) hgw2, HYL.out, ?_, ?_, HDR1.out⟩
                  · rw [HSN.out, if_pos rfl, List.append_nil]; exact HTK.out
                  · rw [HSN.out, if_pos rfl, List.append_nil]; exact HML.out
                case measure => simp [intOf]; omega
              · have HXY := Lib.hid hxy
                obtain ⟨⟨mop, md, ma, mb⟩, hmy⟩ : ∃ y, ys[m]? = some y := ⟨_, List.getElem?_eq_getElem (by rw [HYL.out]; exact hmn)⟩
                obtain ⟨⟨m0, m1, m2, m3⟩, ⟨z0, z1, z2, z3⟩⟩ := HRW2.out.at0 hmy
                clear hxy hmy
                by_cases gq0 : op = op'
                rotate_left
                · have tq1 : (op == op') = false := by simpa using gq0
                  have tq2 : (op != op') = true := by simpa using gq0
                  go_wp2_with (go_quiet (fail))
                  go_roundw
                  case rel =>
                    have hrs := (HRW2.out.grow ((Grow.refl _).drewN nq) hgw2).set0 (k := m) (by rw [HYL.out]; exact hmn) ⟨op, d, a, b⟩
                    refine ⟨m + 1, q + 1, ys.set m ⟨op, d, a, b⟩, by go_num, by go_num, by omega, by omega, by omega, below_storeL (i := m * 4) ⟨op, d, a, b⟩ (below_drewN HB2.out nq) hB, ?_, hrs, by rw [List.length_set]; exact HYL.out, ?_, ?_, ?_⟩
                    · simp only [World.size_setCell]; simpa using hgw2
                    · rw [HSN.out, if_neg HXY.out, ← HTK.out, List.take_add_one, List.take_set, List.getElem?_set_self (by rw [HYL.out]; exact hmn), List.set_eq_of_length_le (by simp; omega)]; rfl
                    · rw [HSN.out, if_neg HXY.out, List.length_append]; have := HML.out; simp; omega
                    · rw [List.drop_set_of_lt (by omega)]; exact HDR1.out
                  case measure => simp [intOf]; omega
                subst gq0
                by_cases gq1 : d = d'
                rotate_left
                · have tq1 : (d == d') = false := by simpa using gq1
                  have tq2 : (d != d') = true := by simpa using gq1
                  go_wp2_with (go_quiet (fail))
                  go_roundw
                  case rel =>
                    have hrs := (HRW2.out.grow ((Grow.refl _).drewN nq) hgw2).set0 (k := m) (by rw [HYL.out]; exact hmn) ⟨op, d, a, b⟩
                    refine ⟨m + 1, q + 1, ys.set m ⟨op, d, a, b⟩, by go_num, by go_num, by omega, by omega, by omega, below_storeL (i := m * 4) ⟨op, d, a, b⟩ (below_drewN HB2.out nq) hB, ?_, hrs, by rw [List.length_set]; exact HYL.out, ?_, ?_, ?_⟩
                    · simp only [World.size_setCell]; simpa using hgw2
                    · rw [HSN.out, if_neg HXY.out, ← HTK.out, List.take_add_one, List.take_set, List.getElem?_set_self (by rw [HYL.out]; exact hmn), List.set_eq_of_length_le (by simp; omega)]; rfl
                    · rw [HSN.out, if_neg HXY.out, List.length_append]; have := HML.out; simp; omega
                    · rw [List.drop_set_of_lt (by omega)]; exact HDR1.out
                  case measure => simp [intOf]; omega
                subst gq1
                by_cases gq2 : a = a'
                rotate_left
                · have tq1 : (a == a') = false := by simpa using gq2
                  have tq2 : (a != a') = true := by simpa using gq2
                  go_wp2_with (go_quiet (fail))
                  go_roundw
                  case rel =>
                    have hrs := (HRW2.out.grow ((Grow.refl _).drewN nq) hgw2).set0 (k := m) (by rw [HYL.out]; exact hmn) ⟨op, d, a, b⟩
                    refine ⟨m + 1, q + 1, ys.set m ⟨op, d, a, b⟩, by go_num, by go_num, by omega, by omega, by omega, below_storeL (i := m * 4) ⟨op, d, a, b⟩ (below_drewN HB2.out nq) hB, ?_, hrs, by rw [List.length_set]; exact HYL.out, ?_, ?_, ?_⟩
                    · simp only [World.size_setCell]; simpa using hgw2
                    · rw [HSN.out, if_neg HXY.out, ← HTK.out, List.take_add_one, List.take_set, List.getElem?_set_self (by rw [HYL.out]; exact hmn), List.set_eq_of_length_le (by simp; omega)]; rfl
                    · rw [HSN.out, if_neg HXY.out, List.length_append]; have := HML.out; simp; omega
                    · rw [List.drop_set_of_lt (by omega)]; exact HDR1.out
                  case measure => simp [intOf]; omega
                subst gq2
                by_cases gq3 : b = b'
                rotate_left
                · have tq1 : (b == b') = false := by simpa using gq3
                  have tq2 : (b != b') = true := by simpa using gq3
                  go_wp2_with (go_quiet (fail))
                  go_roundw
                  case rel =>
                    have hrs := (HRW2.out.grow ((Grow.refl _).drewN nq) hgw2).set0 (k := m) (by rw [HYL.out]; exact hmn) ⟨op, d, a, b⟩
                    refine ⟨m + 1, q + 1, ys.set m ⟨op, d, a, b⟩, by go_num, by go_num, by omega, by omega, by omega, below_storeL (i := m * 4) ⟨op, d, a, b⟩ (below_drewN HB2.out nq) hB, ?_, hrs, by rw [List.length_set]; exact HYL.out, ?_, ?_, ?_⟩
                    · simp only [World.size_setCell]; simpa using hgw2
                    · rw [HSN.out, if_neg HXY.out, ← HTK.out, List.take_add_one, List.take_set, List.getElem?_set_self (by rw [HYL.out]; exact hmn), List.set_eq_of_length_le (by simp; omega)]; rfl
                    · rw [HSN.out, if_neg HXY.out, List.length_append]; have := HML.out; simp; omega
                    · rw [List.drop_set_of_lt (by omega)]; exact HDR1.out
                  case measure => simp [intOf]; omega
                subst gq3
                exact absurd rfl HXY.out
            · have hqe : q = n2 := by omega
              subst hqe
              have hmlt : m < k + q := hmq
              have hcl : ∀ ty, (Builtin.clear_ #[29] ty #[.slice (some ⟨g, m * 4, none⟩) (k + q - m) (k + cc - m)]).run Try.prog wr = .ok (.tuple #[]) (wr.setCells g (m * 4) (zerosL (k + q - m))) := fun ty =>
                run_clear_lines wr ty g (m * 4) (k + q - m) (k + cc - m) (by omega) (fun t ht => (HRW2.out.isSome (by rw [HYL.out]; omega)).1) (fun t ht => (HRW2.out.isSome (by rw [HYL.out]; omega)).2)
              have hfin := HRW2.out.cleared m (k + q - m)
              rw [HTK.out] at hfin
              have hlen : m = (compL (xs.take (k + q))).length := by
                rw [← HTK.out, List.length_take, HYL.out]; omega
              have hall : compL (xs.take (k + q)) = compL xs := by rw [List.take_of_length_le (by rw [HN.out]; exact Nat.le_refl _)]
              rw [hall] at hfin hlen
              have hf := HR.out _ (below_setCells g hB _ _ _ HB2.out) (by rw [size_setCells']; exact hgw2) hfin
              rw [← hlen] at hf
              have HF := Lib.hid hf
              have hm2 : (m : Int) ≤ ((k + q : Nat) : Int) := by omega
              have hm3 : (m : Int) ≤ (k : Int) + (q : Int) := by omega
              have hm4 : m ≤ k + q := by omega
              have hm5 : m ≤ k + cc := by omega
              clear hf hfin hlen hall
              go_wp2_with fail
              exact HF.out
        · have HXY := Lib.hid hxy
          clear hxy
          by_cases gq0 : op = op'
          rotate_left
          · have tq1 : (op == op') = false := by simpa using gq0
            have tq2 : (op != op') = true := by simpa using gq0
            go_wp2_with (go_quiet (fail))
            go_roundw
            case rel =>
              refine ⟨k + 1, by omega, by omega, by go_num, below_drewN HB.out _, by simpa using hgw, HRW.out.grow ((Grow.refl _).drewN _) hgw, fun i x y hi hx hy => ?_⟩
              by_cases e : i = j
              · subst e
                rw [HX.out] at hx
                rw [← HJ.out, HY.out] at hy
                cases hx
                cases hy
                exact HXY.out
              · exact HNO.out i x y (by have := HJ.out; omega) hx hy
            case measure => simp [intOf]; omega
          subst gq0
          by_cases gq1 : d = d'
          rotate_left
          · have tq1 : (d == d') = false := by simpa using gq1
            have tq2 : (d != d') = true := by simpa using gq1
            go_wp2_with (go_quiet (fail))
            go_roundw
            case rel =>
              refine ⟨k + 1, by omega, by omega, by go_num, below_drewN HB.out _, by simpa using hgw, HRW.out.grow ((Grow.refl _).drewN _) hgw, fun i x y hi hx hy => ?_⟩
              by_cases e : i = j
              · subst e
                rw [HX.out] at hx
                rw [← HJ.out, HY.out] at hy
                cases hx
                cases hy
                exact HXY.out
              · exact HNO.out i x y (by have := HJ.out; omega) hx hy
            case measure => simp [intOf]; omega
          subst gq1
          by_cases gq2 : a = a'
          rotate_left
          · have tq1 : (a == a') = false := by simpa using gq2
            have tq2 : (a != a') = true := by simpa using gq2
            go_wp2_with (go_quiet (fail))
            go_roundw
            case rel =>
              refine ⟨k + 1, by omega, by omega, by go_num, below_drewN HB.out _, by simpa using hgw, HRW.out.grow ((Grow.refl _).drewN _) hgw, fun i x y hi hx hy => ?_⟩
              by_cases e : i = j
              · subst e
                rw [HX.out] at hx
                rw [← HJ.out, HY.out] at hy
                cases hx
                cases hy
                exact HXY.out
              · exact HNO.out i x y (by have := HJ.out; omega) hx hy
            case measure => simp [intOf]; omega
          subst gq2
          by_cases gq3 : b = b'
          rotate_left
          · have tq1 : (b == b') = false := by simpa using gq3
            have tq2 : (b != b') = true := by simpa using gq3
            go_wp2_with (go_quiet (fail))
            go_roundw
            case rel =>
              refine ⟨k + 1, by omega, by omega, by go_num, below_drewN HB.out _, by simpa using hgw, HRW.out.grow ((Grow.refl _).drewN _) hgw, fun i x y hi hx hy => ?_⟩
              by_cases e : i = j
              · subst e
                rw [HX.out] at hx
                rw [← HJ.out, HY.out] at hy
                cases hx
                cases hy
                exact HXY.out
              · exact HNO.out i x y (by have := HJ.out; omega) hx hy
            case measure => simp [intOf]; omega
          subst gq3
          exact absurd rfl HXY.out
      · have hke : k = n := by omega
        have hc : compL xs = xs := by
          have := compL_take_same (xs := xs) k (by rw [HN.out]; omega) (fun j x y hj hx hy => HNO.out j x y hj hx hy)
          rwa [List.take_of_length_le (by rw [HN.out]; omega)] at this
        have hf := HR.out wr HB.out hgw (by rw [hc]; exact HRW.out)
        rw [hc, HN.out] at hf
        have HF := Lib.hid hf
        clear hf hc
        subst hke
        go_wp2_with fail
        exact HF.out
end Go.Proofs.Ytbccbokjecdaaaa
