/- The walks of code.Put and of the document's answer to it. -/
import Derived.Test.YtmaphlbmmemgcaaPlP
import Derived.Test.YtmaphlbmmemgcaaCodeI
import Derived.Test.YtmaphlbmmemgcaaRefC
namespace Go.Proofs.Ytmaphlbmmemgcaa
open Go.RowKit

def putE (p : List Ln) (at_ : Int) (l : Ln) : Int := if valP p = 0 then (if l.ok then (if inB at_ 0 (p.length - 1) then 0 else 4) else 1) else valP p
def putM (p : List Ln) (at_ : Int) (l : Ln) : List Ln := ifOK (putE p at_ l) (p.set at_.toNat l)

theorem own_slice {base : Nat} {w : World} {v : Value} {p : List Ln} (h : Own 4 encL base w v p) (hp : 0 < p.length) : ∃ e g cap, v = .slice (some ⟨g, 0, none⟩) p.length cap ∧ base ≤ g ∧ g < w.heap.size ∧ w.ownsRow base e 4 (.slice (some ⟨g, 0, none⟩) p.length cap) p.length (p.flatMap encL) := by
  obtain ⟨e, h⟩ := h
  rcases h.2 with ⟨_, h0⟩ | ⟨g, cap, cur, rfl, hg, hh, _⟩
  · omega
  · exact ⟨e, g, cap, rfl, hg, lt_of_block hh, h⟩
theorem own_cells {base e g cap : Nat} {w : World} {p : List Ln} (h : w.ownsRow base e 4 (.slice (some ⟨g, 0, none⟩) p.length cap) p.length (p.flatMap encL)) (k : Nat) (l : Ln) (hl : p[k]? = some l) :
    w.cell? ⟨g, k * 4, none⟩ = some (.int .i64 l.op) ∧ w.cell? ⟨g, k * 4 + 1, none⟩ = some (.int .i64 l.d) ∧ w.cell? ⟨g, k * 4 + 2, none⟩ = some (.int .i64 l.a) ∧ w.cell? ⟨g, k * 4 + 3, none⟩ = some (.int .i64 l.b) := by
  obtain ⟨a, c, e1, _, _, h4⟩ := slc_of_owns encL_len h
  cases e1
  rcases h4 with ⟨h4, _⟩ | ⟨b, o, e2, _, hc⟩
  · rw [h4] at hl; simp at hl
  · cases e2
    obtain ⟨op, d, a, b⟩ := l
    have := lines_cell hc k op d a b hl
    simpa using this

theorem clone_any' (xs : List Ln) (v : Value) (w : World) (hx : LinesAt w v xs) (hn : xs.length < 10000000000) (R : Ending → World → Prop) (hR : ∀ w' x, Grow w w' → Own 4 encL w.heap.size w' x xs → R (.returned x) w') :
    Calls Try.prog 77 #[v] w R := cloneL_any xs v w hx hn R hR

set_option maxHeartbeats 1000000 in
theorem rcopy_any (xs : List Ln) (v : Value) (w : World) (hx : LinesAt w v xs) (hn : xs.length < 10000000000) (R : Ending → World → Prop) (hR : ∀ w' x, Grow w w' → Own 4 encL w.heap.size w' x xs → R (.returned x) w') :
    Calls Try.prog 35 #[v] w R := by
  have hx' := hx
  obtain ⟨a, c, rfl, h1, h2, h3⟩ := hx'
  have HX := Lib.hid hx
  have HR := Lib.hid hR
  clear hx hR h3
  go_enter Try.func35, Try.ntmps35
  go_wp2_with (at_builtin; refine wpList_appAll _ rfl (.tmp 3) (.tmp 4) 22 rfl w.heap.size 37 Try.underlying22 info_line rfl (by decide) (by decide) encL encL_len encL_one _ [] rfl (ownsRow_empty w 4 _ _ _ (Nat.le_refl _)) _ xs rfl (HX.out.grow ((Grow.refl w).alloc _)) (by simp; omega) (by simp) ?_; intro v1 w1 hown1 hgr1)
  exact HR.out _ _ (grown_below (ownsRow_empty w 4 37 encL _ (Nat.le_refl _)) hgr1 (Nat.le_refl _) (by simp) ((Grow.refl w).alloc _)) ⟨_, hown1⟩

set_option maxHeartbeats 4000000 in
theorem Put_any (p : List Ln) (at_ op d a b : Int) (v : Value) (w : World) (hp : LinesAt w v p) (R : Ending → World → Prop)
    (hR : ∀ w' x, Grow w w' → Own 4 encL w.heap.size w' x (putM p at_ ⟨op, d, a, b⟩) → R (.returned (.tuple #[x, .int .i64 (putE p at_ ⟨op, d, a, b⟩)])) w') :
    Calls Try.prog 36 #[v, .int .i64 at_, .agg #[.int .i64 op, .int .i64 d, .int .i64 a, .int .i64 b]] w R := by
  have HR := Lib.hid hR
  have HP := Lib.hid hp
  obtain ⟨pa, pc, rfl, p1, p2, _⟩ := hp
  clear hR
  by_cases h : valP p = 0
  · have hE : putE p at_ ⟨op, d, a, b⟩ = if vL op d a b then (if inB at_ 0 (p.length - 1) then 0 else 4) else 1 := by unfold putE; rw [if_pos h]; rfl
    have hpl := (valP_ok.1 h).1
    have H := Lib.hid h
    clear h
    go_enter Try.func36, Try.ntmps36
    go_wp2_with fail
    refine validate_any p _ _ (HP.out.grow ((Grow.refl w).alloc _)) _ ?_
    intro w1 hg1
    rw [H.out]
    have hb1 := hg1.blk (heap_alloc_new w (.cells #[.int .i64 op, .int .i64 d, .int .i64 a, .int .i64 b] 37))
    obtain ⟨e0, e1, e2, e3⟩ := box_cells hb1
    have hz1 := lt_of_block hb1
    have HG1 := Lib.hid (((Grow.refl w).alloc _).trans hg1)
    have HB1 := Lib.hid hb1
    clear hg1 hb1
    go_wp2_with fail
    refine validateLine_any op d a b _ _ ?_
    intro w2 hg2
    have hb2 := hg2.blk HB1.out
    clear e0 e1 e2 e3 hz1
    obtain ⟨e0, e1, e2, e3⟩ := box_cells hb2
    have hz1 := lt_of_block hb2
    have HG2 := Lib.hid (HG1.out.trans hg2)
    have HB2 := Lib.hid hb2
    clear hg2 hb2 HB1
    cases hv : vL op d a b with
    | false =>
      rw [hv, if_neg (by simp)] at hE
      have hM : putM p at_ ⟨op, d, a, b⟩ = [] := by unfold putM; rw [hE]; rfl
      have HR2 := HR.out
      rw [hE, hM] at HR2
      have HR3 := Lib.hid HR2
      clear HR2 HR hE hM
      rw [errB_false]
      go_wp2_with fail
      exact HR3.out _ _ HG2.out (Own.nil _ _ _ _)
    | true =>
      rw [hv, if_pos rfl] at hE
      rw [errB_true]
      go_wp2_with fail
      refine within_any _ _ _ _ _ ?_
      cases hin : inB at_ 0 (p.length - 1) with
      | false =>
        rw [hin, if_neg (by simp)] at hE
        have hM : putM p at_ ⟨op, d, a, b⟩ = [] := by unfold putM; rw [hE]; rfl
        have HR2 := HR.out
        rw [hE, hM] at HR2
        have HR3 := Lib.hid HR2
        clear HR2 HR hE hM
        go_wp2_with fail
        exact HR3.out _ _ HG2.out (Own.nil _ _ _ _)
      | true =>
        rw [hin, if_pos rfl] at hE
        obtain ⟨i0, i1⟩ := inB_true.1 hin
        obtain ⟨k, rfl⟩ : ∃ k : Nat, at_ = k := ⟨at_.toNat, by omega⟩
        have hM : putM p k ⟨op, d, a, b⟩ = p.set k ⟨op, d, a, b⟩ := by unfold putM; rw [hE]; rfl
        have HR2 := HR.out
        rw [hE, hM] at HR2
        have HR3 := Lib.hid HR2
        clear HR2 HR hE hM hin
        have hk : k < p.length := by omega
        go_wp2_with fail
        refine clone_any' p _ _ (HP.out.grow HG2.out) (by omega) _ ?_
        intro w3 x hg3 hown
        have hb3 := hg3.blk HB2.out
        clear e0 e1 e2 e3
        obtain ⟨e0, e1, e2, e3⟩ := box_cells hb3
        have hz3 := lt_of_block hb3
        obtain ⟨e, g, cap, rfl, hbg, hgl, ho⟩ := own_slice hown (by omega)
        obtain ⟨l0, hl0⟩ : ∃ l, p[k]? = some l := ⟨_, List.getElem?_eq_getElem hk⟩
        obtain ⟨k0, k1, k2, k3⟩ := own_cells ho k l0 hl0
        have z0 := ownsRow_free ho (k * 4)
        have z1 := ownsRow_free ho (k * 4 + 1)
        have z2 := ownsRow_free ho (k * 4 + 2)
        have z3 := ownsRow_free ho (k * 4 + 3)
        have hne : w.heap.size ≠ g := by have := HG2.out.sz; omega
        have HO := Lib.hid ho
        have HG3 := Lib.hid (HG2.out.trans hg3)
        have hsz := HG2.out.sz
        clear hg3 hown ho hb3 hl0
        go_wp2_with fail
        have hs := owns_storeL HO.out k hk ⟨op, d, a, b⟩
        rw [List.length_set] at hs
        refine HR3.out (storeL w3 g (k * 4) ⟨op, d, a, b⟩) _ (below_storeL _ HG3.out (by omega)) ⟨e, ?_⟩
        rw [List.length_set]
        exact ownsRow_mono hs (by omega)
  · have hE : putE p at_ ⟨op, d, a, b⟩ = valP p := by unfold putE; rw [if_neg h]
    have hM : putM p at_ ⟨op, d, a, b⟩ = [] := by unfold putM; rw [hE, ifOK_err h]
    have HR2 := HR.out
    rw [hE, hM] at HR2
    generalize he : valP p = e at h HR2
    have HR3 := Lib.hid HR2
    have H := Lib.hid he
    clear HR2 HR hE hM he
    have t1 : (e == 0) = false := by simpa using h
    have t2 : (e != 0) = true := by simpa using h
    go_enter Try.func36, Try.ntmps36
    go_wp2_with fail
    refine validate_any p _ _ (HP.out.grow ((Grow.refl w).alloc _)) _ ?_
    intro w1 hg1
    rw [H.out]
    go_wp2_with fail
    exact HR3.out _ _ (((Grow.refl w).alloc _).trans hg1) (Own.nil _ _ _ _)

set_option maxHeartbeats 4000000 in
theorem rPut_any (p : List Ln) (at_ op d a b : Int) (v : Value) (w : World) (hp : LinesAt w v p) (R : Ending → World → Prop)
    (hR : ∀ w' x, Grow w w' → Own 4 encL w.heap.size w' x (putM p at_ ⟨op, d, a, b⟩) → R (.returned (.tuple #[x, .int .i64 (putE p at_ ⟨op, d, a, b⟩)])) w') :
    Calls Try.prog 37 #[v, .int .i64 at_, .agg #[.int .i64 op, .int .i64 d, .int .i64 a, .int .i64 b]] w R := by
  have HR := Lib.hid hR
  have HP := Lib.hid hp
  obtain ⟨pa, pc, rfl, p1, p2, _⟩ := hp
  clear hR
  by_cases h : valP p = 0
  · have hE : putE p at_ ⟨op, d, a, b⟩ = if vL op d a b then (if inB at_ 0 (p.length - 1) then 0 else 4) else 1 := by unfold putE; rw [if_pos h]; rfl
    have hpl := (valP_ok.1 h).1
    have H := Lib.hid h
    clear h
    go_enter Try.func37, Try.ntmps37
    go_wp2_with fail
    refine rValidate_any p _ _ (HP.out.grow ((Grow.refl w).alloc _)) _ ?_
    intro w1 hg1
    rw [H.out]
    have hb1 := hg1.blk (heap_alloc_new w (.cells #[.int .i64 op, .int .i64 d, .int .i64 a, .int .i64 b] 37))
    obtain ⟨e0, e1, e2, e3⟩ := box_cells hb1
    have hz1 := lt_of_block hb1
    have HG1 := Lib.hid (((Grow.refl w).alloc _).trans hg1)
    have HB1 := Lib.hid hb1
    clear hg1 hb1
    go_wp2_with fail
    refine risLine_any op d a b _ _ ?_
    intro w2 hg2
    have hb2 := hg2.blk HB1.out
    clear e0 e1 e2 e3 hz1
    obtain ⟨e0, e1, e2, e3⟩ := box_cells hb2
    have hz1 := lt_of_block hb2
    have HG2 := Lib.hid (HG1.out.trans hg2)
    have HB2 := Lib.hid hb2
    clear hg2 hb2 HB1
    cases hv : vL op d a b with
    | false =>
      rw [hv, if_neg (by simp)] at hE
      have hM : putM p at_ ⟨op, d, a, b⟩ = [] := by unfold putM; rw [hE]; rfl
      have HR2 := HR.out
      rw [hE, hM] at HR2
      have HR3 := Lib.hid HR2
      clear HR2 HR hE hM
      skip
      go_wp2_with fail
      exact HR3.out _ _ HG2.out (Own.nil _ _ _ _)
    | true =>
      rw [hv, if_pos rfl] at hE
      skip
      go_wp2_with fail
      refine rwithin_any _ _ _ _ _ ?_
      cases hin : inB at_ 0 (p.length - 1) with
      | false =>
        rw [hin, if_neg (by simp)] at hE
        have hM : putM p at_ ⟨op, d, a, b⟩ = [] := by unfold putM; rw [hE]; rfl
        have HR2 := HR.out
        rw [hE, hM] at HR2
        have HR3 := Lib.hid HR2
        clear HR2 HR hE hM
        go_wp2_with fail
        exact HR3.out _ _ HG2.out (Own.nil _ _ _ _)
      | true =>
        rw [hin, if_pos rfl] at hE
        obtain ⟨i0, i1⟩ := inB_true.1 hin
        obtain ⟨k, rfl⟩ : ∃ k : Nat, at_ = k := ⟨at_.toNat, by omega⟩
        have hM : putM p k ⟨op, d, a, b⟩ = p.set k ⟨op, d, a, b⟩ := by unfold putM; rw [hE]; rfl
        have HR2 := HR.out
        rw [hE, hM] at HR2
        have HR3 := Lib.hid HR2
        clear HR2 HR hE hM hin
        have hk : k < p.length := by omega
        go_wp2_with fail
        refine rcopy_any p _ _ (HP.out.grow HG2.out) (by omega) _ ?_
        intro w3 x hg3 hown
        have hb3 := hg3.blk HB2.out
        clear e0 e1 e2 e3
        obtain ⟨e0, e1, e2, e3⟩ := box_cells hb3
        have hz3 := lt_of_block hb3
        obtain ⟨e, g, cap, rfl, hbg, hgl, ho⟩ := own_slice hown (by omega)
        obtain ⟨l0, hl0⟩ : ∃ l, p[k]? = some l := ⟨_, List.getElem?_eq_getElem hk⟩
        obtain ⟨k0, k1, k2, k3⟩ := own_cells ho k l0 hl0
        have z0 := ownsRow_free ho (k * 4)
        have z1 := ownsRow_free ho (k * 4 + 1)
        have z2 := ownsRow_free ho (k * 4 + 2)
        have z3 := ownsRow_free ho (k * 4 + 3)
        have hne : w.heap.size ≠ g := by have := HG2.out.sz; omega
        have HO := Lib.hid ho
        have HG3 := Lib.hid (HG2.out.trans hg3)
        have hsz := HG2.out.sz
        clear hg3 hown ho hb3 hl0
        go_wp2_with fail
        have hs := owns_storeL HO.out k hk ⟨op, d, a, b⟩
        rw [List.length_set] at hs
        refine HR3.out (storeL w3 g (k * 4) ⟨op, d, a, b⟩) _ (below_storeL _ HG3.out (by omega)) ⟨e, ?_⟩
        rw [List.length_set]
        exact ownsRow_mono hs (by omega)
  · have hE : putE p at_ ⟨op, d, a, b⟩ = valP p := by unfold putE; rw [if_neg h]
    have hM : putM p at_ ⟨op, d, a, b⟩ = [] := by unfold putM; rw [hE, ifOK_err h]
    have HR2 := HR.out
    rw [hE, hM] at HR2
    generalize he : valP p = e at h HR2
    have HR3 := Lib.hid HR2
    have H := Lib.hid he
    clear HR2 HR hE hM he
    have t1 : (e == 0) = false := by simpa using h
    have t2 : (e != 0) = true := by simpa using h
    go_enter Try.func37, Try.ntmps37
    go_wp2_with fail
    refine rValidate_any p _ _ (HP.out.grow ((Grow.refl w).alloc _)) _ ?_
    intro w1 hg1
    rw [H.out]
    go_wp2_with fail
    exact HR3.out _ _ (((Grow.refl w).alloc _).trans hg1) (Own.nil _ _ _ _)

end Go.Proofs.Ytmaphlbmmemgcaa
