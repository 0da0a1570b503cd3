/- The walk of code.Force: the state at the end if lines write given numbers. -/
import Derived.Test.YtmaphlbmmemgcaaPlF
import Derived.Test.YtmaphlbmmemgcaaHelp
import Derived.Test.YtmaphlbmmemgcaaSets
import Derived.Test.YtmaphlbmmemgcaaCodeI
namespace Go.Proofs.Ytmaphlbmmemgcaa
open Go.RowKit

/-- Three boxes, one after another. -/
theorem boxes3 (w : World) (A B C : Value) (ta tb tc : TypeId) :
    ((((w.alloc (.cells #[A] ta)).alloc (.cells #[B] tb)).alloc (.cells #[C] tc)).cell? ⟨w.heap.size, 0, none⟩ = some A) ∧ ((((w.alloc (.cells #[A] ta)).alloc (.cells #[B] tb)).alloc (.cells #[C] tc)).cell? ⟨w.heap.size + 1, 0, none⟩ = some B) ∧ ((((w.alloc (.cells #[A] ta)).alloc (.cells #[B] tb)).alloc (.cells #[C] tc)).cell? ⟨w.heap.size + 2, 0, none⟩ = some C) := by
  have h1 : (((w.alloc (.cells #[A] ta)).alloc (.cells #[B] tb)).alloc (.cells #[C] tc)).heap[w.heap.size]? = some (.cells #[A] ta) := by
    rw [Below.heap_alloc _ _ _ (by simp; omega)]; exact heap_two0 w _ _
  have h2 : (((w.alloc (.cells #[A] ta)).alloc (.cells #[B] tb)).alloc (.cells #[C] tc)).heap[w.heap.size + 1]? = some (.cells #[B] tb) := by
    rw [Below.heap_alloc _ _ _ (by simp)]; exact heap_two1 w _ _
  have h3 : (((w.alloc (.cells #[A] ta)).alloc (.cells #[B] tb)).alloc (.cells #[C] tc)).heap[w.heap.size + 2]? = some (.cells #[C] tc) := by
    have := heap_two1 (w.alloc (.cells #[A] ta)) (.cells #[B] tb) (.cells #[C] tc)
    rwa [World.size_alloc] at this
  exact ⟨by unfold World.cell?; simp only [h1]; rfl, by unfold World.cell?; simp only [h2]; rfl, by unfold World.cell?; simp only [h3]; rfl⟩

theorem force1_any (x : Int) (b : Nat) (pa : Option Addr) (pc n : Nat) (hn : n ≤ 1000000000) (w : World) (hb : w.cell? ⟨b, 0, none⟩ = some (.slice pa n pc)) (R : Ending → World → Prop) (hR : R (.returned (.bool (!inB x 0 (n - 1)))) w) :
    Calls Try.prog 83 #[.int .i64 x, .pointer (some ⟨b, 0, none⟩)] w R := by
  go_enter Try.func83, Try.ntmps83
  go_wp2_with fail
  refine within_any _ _ _ _ _ ?_
  generalize inB x 0 (n - 1) = z at hR ⊢
  go_wp2_with fail
  exact hR
theorem force2_any (x : Int) (w : World) (R : Ending → World → Prop) (hR : R (.returned (.bool (!inB x (-999) 999))) w) :
    Calls Try.prog 84 #[.int .i64 x] w R := by
  go_enter Try.func84, Try.ntmps84
  go_wp2_with fail
  refine within_any _ _ _ _ _ ?_
  generalize inB x (-999) 999 = z at hR ⊢
  go_wp2_with fail
  exact hR

set_option maxHeartbeats 1000000 in
theorem search_any (xs : List Int) (x : Int) (a : Option Addr) (n c : Nat) (w : World) (hx : IntsAt w (.slice a n c) xs) (ha : ascB xs = true) (hn : xs.length < 4611686018427387904) (R : Ending → World → Prop)
    (hR : ∀ w', Grow w w' → R (.returned (.tuple #[.int .i64 ((xs.countP fun y => decide (y < x) : Nat) : Int), .bool (xs.contains x)])) w') :
    Calls Try.prog 86 #[.slice a n c, .int .i64 x] w R := by
  obtain ⟨rfl, hm⟩ := slc_n hx
  obtain ⟨_, _, e, _, _, h⟩ := hx
  cases e
  rcases h with ⟨rfl, _⟩ | ⟨b, o, rfl, hb, hc⟩
  · refine (Try.slices_BinarySearch_int_empty a c x w).mono ?_
    rintro e w' ⟨rfl, rfl⟩
    exact hR _ (Grow.refl _)
  · refine (Try.slices_BinarySearch_int b o xs.length c xs x w (Nat.le_refl _) hn (fun j hj => ?_) (by rw [List.take_length]; exact asc_pairwise ha)).mono ?_
    · have := ints_cell hc j xs[j] (List.getElem?_eq_getElem hj)
      rw [this, List.getD_eq_getElem?_getD, List.getElem?_eq_getElem hj]; rfl
    · rintro e w' ⟨rfl, q, rfl⟩
      rw [List.take_length]
      exact hR _ ((Grow.refl w).drewN q)

set_option maxHeartbeats 1000000 in
theorem force3_any (lines values : List Int) (i : Nat) (ha : ascB lines = true) (hn : lines.length < 4611686018427387904) (hlen : values.length = lines.length) (b c : Nat) (la va : Option Addr) (lc vc : Nat) (w : World)
    (hb : w.cell? ⟨b, 0, none⟩ = some (.slice la lines.length lc)) (hc : w.cell? ⟨c, 0, none⟩ = some (.slice va values.length vc)) (hl : IntsAt w (.slice la lines.length lc) lines) (hv : IntsAt w (.slice va values.length vc) values)
    (R : Ending → World → Prop) (hR : ∀ w', Grow w w' → R (.returned (.tuple #[.int .i64 ((frc lines values i).getD 0), .bool (frc lines values i).isSome])) w') :
    Calls Try.prog 85 #[.int .i64 i, .pointer (some ⟨b, 0, none⟩), .pointer (some ⟨c, 0, none⟩)] w R := by
  have hs := frc_search (values := values) ha i
  have HL := Lib.hid hl
  have HV := Lib.hid hv
  have HA := Lib.hid ha
  have HN := Lib.hid hn
  have HR := Lib.hid hR
  have HLEN := Lib.hid hlen
  clear hl hv ha hn hR hlen
  go_enter Try.func85, Try.ntmps85
  go_wp2_with fail
  refine search_any lines i _ _ _ _ HL.out HA.out HN.out _ ?_
  intro w1 hg1
  have hb1 := hg1.cell hb
  have hc1 := hg1.cell hc
  have HV1 := Lib.hid (HV.out.grow hg1)
  have HG1 := Lib.hid hg1
  clear hb hc hg1
  cases h : lines.contains (i : Int) with
  | false =>
    rw [h, if_neg (by simp)] at hs
    have HF := HR.out w1 HG1.out
    rw [hs] at HF
    have HF2 := Lib.hid HF
    clear hs HF
    go_wp2_with fail
    exact HF2.out
  | true =>
    rw [h, if_pos rfl] at hs
    have hm : (i : Int) ∈ lines := by simpa using h
    obtain ⟨k, hk⟩ := List.mem_iff_getElem?.1 hm
    have hlt := (List.getElem?_eq_some_iff.1 hk).1
    have e : lines.getD k 0 = (i : Int) := by rw [List.getD_eq_getElem?_getD, hk]; rfl
    rw [countP_at HA.out hlt e] at hs ⊢
    have hlv : k < values.length := by rw [HLEN.out]; exact hlt
    obtain ⟨y, hy⟩ : ∃ y, values[k]? = some y := ⟨_, List.getElem?_eq_getElem hlv⟩
    rw [List.getD_eq_getElem?_getD, hy] at hs
    have HF := HR.out w1 HG1.out
    rw [hs] at HF
    have HF2 := Lib.hid HF
    obtain ⟨vb, vo, rfl, _, ey⟩ := ints_at HV1.out hy
    clear hs HF h hm hk e hy
    go_wp2_with fail
    exact HF2.out

theorem any_at {xs : List Int} {f : Int → Bool} {k : Nat} {x : Int} (hx : xs[k]? = some x) (h : f x = true) : xs.any f = true := List.any_eq_true.2 ⟨x, List.mem_of_getElem? hx, h⟩
theorem any_take_succ {xs : List Int} {f : Int → Bool} {k : Nat} {x : Int} (h : ∀ l ∈ xs.take k, f l = false) (hx : xs[k]? = some x) (hf : f x = false) : ∀ l ∈ xs.take (k + 1), f l = false := by
  intro l hl
  rw [List.take_add_one, hx] at hl
  rcases List.mem_append.1 hl with hl | hl
  · exact h l hl
  · simp at hl; subst hl; exact hf
theorem any_of_take {xs : List Int} {f : Int → Bool} {k : Nat} (h : ∀ l ∈ xs.take k, f l = false) (hk : xs.length ≤ k) : xs.any f = false := by
  rw [List.take_of_length_le hk] at h
  cases e : xs.any f with
  | false => rfl
  | true => obtain ⟨y, hy, hf⟩ := List.any_eq_true.1 e; rw [h y hy] at hf; cases hf


set_option maxRecDepth 100000 in
set_option maxHeartbeats 8000000 in
theorem Force_any (p : List Ln) (s lines values : List Int) (v u lv vv : Value) (w : World) (hp : LinesAt w v p) (hs : IntsAt w u s) (hl : IntsAt w lv lines) (hv : IntsAt w vv values) (hn : lines.length < 4611686018427387904) (R : Ending → World → Prop)
    (hR : ∀ w' x, Grow w w' → IntsAt w' x (frcM p s lines values) → R (.returned (.tuple #[x, .int .i64 (frcE p s lines values)])) w') :
    Calls Try.prog 50 #[v, u, lv, vv] w R := by
  have HP := Lib.hid hp
  have HS := Lib.hid hs
  have HL := Lib.hid hl
  have HV := Lib.hid hv
  have HR := Lib.hid hR
  have HN := Lib.hid hn
  obtain ⟨pa, pc, rfl, p1, p2, _⟩ := hp
  obtain ⟨sa, sc, rfl, s1, s2, _⟩ := hs
  obtain ⟨la, lc, rfl, l1, l2, _⟩ := hl
  obtain ⟨va, vc, rfl, v1, v2, _⟩ := hv
  clear hR hn
  go_enter Try.func50, Try.ntmps50
  go_wp2_with fail
  refine check_any p s _ _ _ (HP.out.grow ((((Grow.refl w).alloc _).alloc _).alloc _)) (HS.out.grow ((((Grow.refl w).alloc _).alloc _).alloc _)) _ ?_
  intro w1 hg1
  obtain ⟨k4, k6, k7⟩ := boxes3 w (.slice pa p.length pc) (.slice la lines.length lc) (.slice va values.length vc) 22 23 23
  have b4 := hg1.cell k4
  have b6 := hg1.cell k6
  have b7 := hg1.cell k7
  clear k4 k6 k7
  have hz : w.heap.size + 2 < w1.heap.size := by have := hg1.sz; simp at this; omega
  have HG := Lib.hid (((((Grow.refl w).alloc _).alloc _).alloc _).trans hg1)
  clear hg1
  by_cases hck : chk p s = 0
  rotate_left
  · have hE : frcE p s lines values = chk p s := by unfold frcE; rw [if_neg hck]
    have hM : frcM p s lines values = [] := by unfold frcM; rw [hE]; exact ifOK_err hck _
    have HRR := HR.out
    rw [hE, hM] at HRR
    generalize he : chk p s = e at hck HRR
    have HR2 := Lib.hid HRR
    have t1 : (e == 0) = false := by simpa using hck
    have t2 : (e != 0) = true := by simpa using hck
    clear HRR HR hE hM he
    go_wp2_with fail
    exact HR2.out _ _ HG.out (SlcAt.nil _ _ _)
  rw [hck]
  have hE := show frcE p s lines values = _ by unfold frcE; rw [if_pos hck]
  have HE1 := Lib.hid hE
  clear hE
  have HCK := Lib.hid hck
  have hp8 := (valP_ok.1 (chk_ok.1 hck).1).1
  clear hck
  go_wp2_with fail
  refine isSet_any lines _ _ (HL.out.grow HG.out) _ ?_
  intro w2 hg2
  have c4 := hg2.cell b4
  have c6 := hg2.cell b6
  have c7 := hg2.cell b7
  have hz2 : w.heap.size + 2 < w2.heap.size := by have := hg2.sz; omega
  have HG2 := Lib.hid (HG.out.trans hg2)
  clear hg2 b4 b6 b7 hz
  have hE := HE1.out
  clear HE1
  cases hasc : ascB lines with
  | false =>
    rw [hasc, if_neg (by simp)] at hE
    have hM : frcM p s lines values = [] := by unfold frcM; rw [hE]; exact ifOK_err (by decide) _
    have HRR := HR.out
    rw [hE, hM] at HRR
    have HR2 := Lib.hid HRR
    clear HRR HR hE hM hasc
    go_wp2_with fail
    exact HR2.out _ _ HG2.out (SlcAt.nil _ _ _)
  | true =>
  rw [hasc, if_pos rfl] at hE
  have HE1 := Lib.hid hE
  clear hE
  have HASC := Lib.hid hasc
  clear hasc
  have hpr : PredI 83 #[.pointer (some ⟨w.heap.size, 0, none⟩)] w2 (fun i => !inB i 0 (p.length - 1)) := by
    intro x W hg R hR
    have e : (#[.int .i64 x] ++ #[.pointer (some ⟨w.heap.size, 0, none⟩)] : Array Value) = #[.int .i64 x, .pointer (some ⟨w.heap.size, 0, none⟩)] := rfl
    rw [e]
    exact force1_any x w.heap.size pa pc p.length (by omega) W (hg.cell c4) R (hR W (Grow.refl _))
  have HPR := Lib.hid hpr
  clear hpr
  go_wp2_with fail
  refine containsFuncI_any 83 #[.pointer (some ⟨w.heap.size, 0, none⟩)] (enters_of Try.func83 (by kernel_rfl) rfl) (fun i => !inB i 0 (p.length - 1)) lines _ _ (HL.out.grow HG2.out) HPR.out _ ?_
  intro w3 hg3
  have b4 := hg3.cell c4
  have b6 := hg3.cell c6
  have b7 := hg3.cell c7
  have hz : w.heap.size + 2 < w3.heap.size := by have := hg3.sz; omega
  have HG3 := Lib.hid (HG2.out.trans hg3)
  clear hg3 c4 c6 c7 hz2
  have hE := HE1.out
  clear HE1
  cases hrng : (lines.any fun i => !inB i 0 (p.length - 1)) with
  | true =>
    rw [hrng, if_pos rfl] at hE
    have hM : frcM p s lines values = [] := by unfold frcM; rw [hE]; exact ifOK_err (by decide) _
    have HRR := HR.out
    rw [hE, hM] at HRR
    have HR2 := Lib.hid HRR
    clear HRR HR hE hM hrng
    go_wp2_with fail
    exact HR2.out _ _ HG3.out (SlcAt.nil _ _ _)
  | false =>
  rw [hrng, if_neg (by simp)] at hE
  have HRNG := Lib.hid hrng
  clear hrng
  by_cases hlen : values.length = lines.length
  rotate_left
  · rw [if_neg hlen] at hE
    have hne : ((values.length : Int) == lines.length) = false := by simp; omega
    have hne2 : ((values.length : Int) != lines.length) = true := by simp; omega
    have hM : frcM p s lines values = [] := by unfold frcM; rw [hE]; exact ifOK_err (by decide) _
    have HRR := HR.out
    rw [hE, hM] at HRR
    have HR2 := Lib.hid HRR
    clear HRR HR hE hM
    go_wp2_with fail
    exact HR2.out _ _ HG3.out (SlcAt.nil _ _ _)
  rw [if_pos hlen] at hE
  have HE1 := Lib.hid hE
  clear hE
  have heq : ((values.length : Int) == lines.length) = true := by simp; omega
  have heq2 : ((values.length : Int) != lines.length) = false := by simp; omega
  have HLEN := Lib.hid hlen
  clear hlen
  have hpr : PredI 84 #[] w3 (fun n => !inB n (-999) 999) := fun x W _ R hR => force2_any x W R (hR W (Grow.refl _))
  have HPR2 := Lib.hid hpr
  clear hpr
  go_wp2_with fail
  refine containsFuncI_any 84 #[] (enters_of Try.func84 (by kernel_rfl) rfl) (fun n => !inB n (-999) 999) values _ _ (HV.out.grow HG3.out) HPR2.out _ ?_
  intro w4 hg4
  have c4 := hg4.cell b4
  have c6 := hg4.cell b6
  have c7 := hg4.cell b7
  have hz2 : w.heap.size + 2 < w4.heap.size := by have := hg4.sz; omega
  have HG4 := Lib.hid (HG3.out.trans hg4)
  clear hg4 b4 b6 b7 hz heq heq2
  have hE := HE1.out
  clear HE1
  cases hval : (values.any fun n => !inB n (-999) 999) with
  | true =>
    rw [hval, if_pos rfl] at hE
    have hM : frcM p s lines values = [] := by unfold frcM; rw [hE]; exact ifOK_err (by decide) _
    have HRR := HR.out
    rw [hE, hM] at HRR
    have HR2 := Lib.hid HRR
    clear HRR HR hE hM hval
    go_wp2_with fail
    exact HR2.out _ _ HG4.out (SlcAt.nil _ _ _)
  | false =>
  rw [hval, if_neg (by simp)] at hE
  have HVAL := Lib.hid hval
  have HE := Lib.hid hE
  clear hval hE
  go_wp2_with fail
  go_loopw [38] (fun iv wr => ∃ k : Nat, k ≤ lines.length ∧ iv = .int .i64 k ∧ Grow w4 wr ∧ ∀ l ∈ lines.take k, (!wrB (p.getD l.toNat default).op) = false) (fun iv _ => lines.length - (intOf iv).toNat)
  case atStart => exact ⟨0, Nat.zero_le _, rfl, Grow.refl _, by simp⟩
  case round =>
    obtain ⟨k, hk, rfl, hg, hall⟩ := hrel
    have HA := Lib.hid hall
    have b4 := hg.cell c4
    have b6 := hg.cell c6
    have b7 := hg.cell c7
    have hz : w.heap.size + 2 < wr.heap.size := by have := hg.sz; omega
    have HG5 := Lib.hid (HG4.out.trans hg)
    have HGL := Lib.hid hg
    clear hall c4 c6 c7 hz2 hg
    by_cases hlt : k < lines.length
    · obtain ⟨x, hx⟩ : ∃ x, lines[k]? = some x := ⟨_, List.getElem?_eq_getElem hlt⟩
      obtain ⟨lb, lo, rfl, _, ex⟩ := ints_at (HL.out.grow HG5.out) hx
      have hin : 0 ≤ x ∧ x ≤ p.length - 1 := by
        have h := HRNG.out
        have := List.any_eq_false.1 h x (List.mem_of_getElem? hx)
        simp at this
        exact inB_true.1 this
      obtain ⟨m, rfl⟩ : ∃ m : Nat, x = m := ⟨x.toNat, by omega⟩
      have hmp : m < p.length := by omega
      obtain ⟨⟨op, d, a, b⟩, hlm⟩ : ∃ l, p[m]? = some l := ⟨_, List.getElem?_eq_getElem hmp⟩
      obtain ⟨pb, po, rfl, _, f0, f1, f2, f3⟩ := lines_at (HP.out.grow HG5.out) hlm
      have hgd : (p.getD (m : Int).toNat default).op = op := by rw [Int.toNat_natCast, List.getD_eq_getElem?_getD, hlm]; rfl
      have HGD := Lib.hid hgd
      have HX := Lib.hid hx
      clear hx hlm hgd hin
      cases hw : wrB op with
      | true =>
        go_wp2_with fail
        refine writes_any op d a b _ _ ?_
        intro w6 hg6
        rw [hw]
        have HG6 := Lib.hid (HGL.out.trans hg6)
        clear hg6
        go_wp2_with fail
        go_roundw
        case rel => exact ⟨k + 1, by omega, by go_num, HG6.out, any_take_succ HA.out HX.out (by rw [HGD.out, hw]; rfl)⟩
        case measure => simp [intOf]; omega
      | false =>
        have hE := HE.out
        rw [any_at HX.out (f := fun l => !wrB (p.getD l.toNat default).op) (by rw [HGD.out, hw]; rfl), if_pos rfl] at hE
        have hM : frcM p s lines values = [] := by unfold frcM; rw [hE]; exact ifOK_err (by decide) _
        have HRR := HR.out
        rw [hE, hM] at HRR
        have HR2 := Lib.hid HRR
        clear HRR HR hE hM
        go_wp2_with fail
        refine writes_any op d a b _ _ ?_
        intro w6 hg6
        rw [hw]
        have HG6 := Lib.hid (HG5.out.trans hg6)
        clear hg6
        go_wp2_with fail
        exact HR2.out _ _ HG6.out (SlcAt.nil _ _ _)
    · have hE := HE.out
      rw [any_of_take HA.out (by omega), if_neg (by simp)] at hE
      have hM : frcM p s lines values = (trc p (frc lines values) 0 (St.ofL s)).2.toL := by unfold frcM; rw [hE]; rfl
      have HRR := HR.out
      rw [hE, hM] at HRR
      have HR2 := Lib.hid HRR
      clear HRR HR hE hM
      obtain ⟨q, hq, hqf⟩ := St.of_valS (chk_ok.1 HCK.out).2
      have hvf : ∀ n ∈ values, -999 ≤ n ∧ n ≤ 999 := fun n hn => by
        have := List.any_eq_false.1 HVAL.out n hn
        simp at this
        exact inB_true.1 this
      have HVF := Lib.hid hvf
      have HQ := Lib.hid hq
      clear hvf hq
      have hfb : ForcedBy 85 #[.pointer (some ⟨w.heap.size + 1, 0, none⟩), .pointer (some ⟨w.heap.size + 2, 0, none⟩)] wr p.length (frc lines values) := by
        intro i W _ hgW R hR
        have e : (#[.int .i64 (i : Int)] ++ #[.pointer (some ⟨w.heap.size + 1, 0, none⟩), .pointer (some ⟨w.heap.size + 2, 0, none⟩)] : Array Value) = #[.int .i64 (i : Int), .pointer (some ⟨w.heap.size + 1, 0, none⟩), .pointer (some ⟨w.heap.size + 2, 0, none⟩)] := rfl
        rw [e]
        exact force3_any lines values i HASC.out HN.out HLEN.out _ _ la va lc vc W (hgW.cell b6) (hgW.cell b7) (HL.out.grow (HG5.out.trans hgW)) (HV.out.grow (HG5.out.trans hgW)) R hR
      have HFB := Lib.hid hfb
      clear hfb
      have hqs : IntsAt wr (.slice sa s.length sc) q.toL := by rw [HQ.out]; exact HS.out.grow HG5.out
      have HQS := Lib.hid hqs
      clear hqs
      go_wp2_with fail
      refine run_any 85 #[.pointer (some ⟨w.heap.size + 1, 0, none⟩), .pointer (some ⟨w.heap.size + 2, 0, none⟩)] (enters_of Try.func85 (by kernel_rfl) rfl) (frc lines values) p q _ _ _ (HP.out.grow HG5.out) HQS.out hp8 (valP_ok.1 (chk_ok.1 HCK.out).1).2 hqf
        HFB.out (fun i n h => HVF.out n (frcN_mem _ (by rw [HLEN.out]; exact Nat.le_refl _) h)) _ ?_
      intro w6 x hg6 _
      have hst : St.ofL s = q := by rw [← HQ.out]; rfl
      have HF0 := HR2.out
      rw [hst] at HF0
      have HF := Lib.hid HF0
      have HG6 := Lib.hid (HG5.out.trans hg6)
      clear HF0 hst hg6 HR2
      generalize (trc p (frc lines values) 0 q).2 = q2 at HF ⊢
      unfold arrS
      go_wp2_with fail
      refine HF.out _ _ (HG6.out.alloc _) ?_
      exact slc_of_owns encI_len (xs := q2.toL) (World.ownsRow_lit (base := w6.heap.size) (e := 75) w6 (arrS q2) 4 (Nat.le_refl _) (by simp [maxLen]) rfl)
end Go.Proofs.Ytmaphlbmmemgcaa
