/- The walks of Candidates and what it calls. -/
import Derived.Test.YtbccbokjecdaaaaSkG
import Derived.Test.YtbccbokjecdaaaaAll
import Derived.Test.YtbccbokjecdaaaaClone
import Derived.Test.YtbccbokjecdaaaaPlCd
namespace Go.Proofs.Ytbccbokjecdaaaa
open Go.RowKit

theorem own_end {w : World} {base : Nat} {x : Value} {xs : List Ln} (h : Own 4 encL base w x xs) (hp : 0 < xs.length) : ∃ g cap, x = .slice (some ⟨g, 0, none⟩) xs.length cap ∧ base ≤ g ∧ g < w.heap.size ∧ xs.length ≤ cap ∧ cap ≤ 9223372036854775807 ∧ RowL w g 0 xs := by
  obtain ⟨e, h⟩ := h
  have h' := h
  rcases h.2 with ⟨_, h0⟩ | ⟨g, cap, cur, rfl, hg, hh, _⟩
  · omega
  · obtain ⟨_, c, e, h1, h2, _⟩ := slc_of_owns encL_len h'
    cases e
    exact ⟨g, cap, rfl, hg, lt_of_block hh, h1, h2, RowL.of_own h'⟩

theorem asked_any (n : Nat) (a0 : Option Addr) (c : Nat) (at_ kind : Int) (w : World) (hn : n ≤ 9223372036854775807) (R : Ending → World → Prop) (hR : R (.returned (.int .i64 (askE n at_ kind))) w) :
    Calls Try.prog 21 #[.slice a0 n c, .int .i64 at_, .int .i64 kind] w R := by
  have hw : IntKind.i64.wrap ((n : Int) - 1) = (n : Int) - 1 := IntWalk.i64_in _ (by omega)
  have hv : askE n at_ kind = if inB at_ 0 ((n : Int) - 1) then (if inB kind 0 2 then 0 else 1) else 4 := rfl
  rw [hv] at hR
  have HR := Lib.hid hR
  clear hR hv
  obtain ⟨b1, h1⟩ : ∃ b, inB at_ 0 ((n : Int) - 1) = b := ⟨_, rfl⟩
  obtain ⟨b2, h2⟩ : ∃ b, inB kind 0 2 = b := ⟨_, rfl⟩
  rw [h1, h2] at HR
  have H1 := Lib.hid h1
  have H2 := Lib.hid h2
  clear h1 h2
  cases b1 with
  | false =>
    go_enter Try.func21, Try.ntmps21
    go_wp2_with fail
    refine swithin_any _ _ _ _ _ ?_
    rw [H1.out]
    go_wp2_with fail
    exact HR.out
  | true =>
    cases b2 with
    | false =>
      go_enter Try.func21, Try.ntmps21
      go_wp2_with fail
      refine swithin_any _ _ _ _ _ ?_
      rw [H1.out]
      go_wp2_with fail
      refine swithin_any _ _ _ _ _ ?_
      rw [H2.out]
      go_wp2_with fail
      exact HR.out
    | true =>
      go_enter Try.func21, Try.ntmps21
      go_wp2_with fail
      refine swithin_any _ _ _ _ _ ?_
      rw [H1.out]
      go_wp2_with fail
      refine swithin_any _ _ _ _ _ ?_
      rw [H2.out]
      go_wp2_with fail
      exact HR.out

theorem keep4 {w2 X Y : World} {a0 a1 a2 a3 : Addr} {v0 v1 v2 v3 : Value} (g : Grow X Y)
    (h : X.cell? a0 = some v0 ∧ X.cell? a1 = some v1 ∧ X.cell? a2 = some v2 ∧ X.cell? a3 = some v3 ∧ Grow w2 X) :
    Y.cell? a0 = some v0 ∧ Y.cell? a1 = some v1 ∧ Y.cell? a2 = some v2 ∧ Y.cell? a3 = some v3 ∧ Grow w2 Y :=
  ⟨g.cell h.1, g.cell h.2.1, g.cell h.2.2.1, g.cell h.2.2.2.1, h.2.2.2.2.trans g⟩

theorem keep4b {w2 X Y : World} {b o0 o1 o2 o3 : Nat} {v0 v1 v2 v3 : Value} (hb : b < w2.heap.size) (g : Below w2.heap.size X Y)
    (h : X.cell? ⟨b, o0, none⟩ = some v0 ∧ X.cell? ⟨b, o1, none⟩ = some v1 ∧ X.cell? ⟨b, o2, none⟩ = some v2 ∧ X.cell? ⟨b, o3, none⟩ = some v3 ∧ Grow w2 X) :
    Y.cell? ⟨b, o0, none⟩ = some v0 ∧ Y.cell? ⟨b, o1, none⟩ = some v1 ∧ Y.cell? ⟨b, o2, none⟩ = some v2 ∧ Y.cell? ⟨b, o3, none⟩ = some v3 ∧ Grow w2 Y :=
  have k : ∀ {o : Nat} {v : Value}, X.cell? ⟨b, o, none⟩ = some v → Y.cell? ⟨b, o, none⟩ = some v := fun {o _} e => (Below.cell (p := ⟨b, o, none⟩) g hb).trans e
  ⟨k h.1, k h.2.1, k h.2.2.1, k h.2.2.2.1, Below.trans h.2.2.2.2 g⟩

set_option maxRecDepth 100000 in
set_option maxHeartbeats 8000000 in
theorem cand0_any (p : List Ln) (at_ : Nat) (op d a b : Int) (v : Value) (w : World) (hv : LinesAt w v p) (hp : p[at_]? = some ⟨op, d, a, b⟩) (hok : vL op d a b = true) (R : Ending → World → Prop)
    (hR : ∀ w' x, Grow w w' → LinesAt w' x (tmpl ⟨op, d, a, b⟩) → R (.returned x) w') :
    Calls Try.prog 22 #[v, .int .i64 at_, .iface 67 (.agg #[])] w R := by
  have HR := Lib.hid hR
  have hlt : at_ < p.length := (List.getElem?_eq_some_iff.1 hp).1
  obtain ⟨va, vc, rfl, v1, v2, v3⟩ := hv
  replace v3 := v3.resolve_left (by intro h; simp [h.1] at hlt)
  obtain ⟨g, o, rfl, hb, hc⟩ := v3
  obtain ⟨f0, f1, f2, f3⟩ := lines_cell hc at_ op d a b hp
  have hlt2 : (at_ : Int) < (p.length : Int) := by omega
  have HOK := Lib.hid hok
  clear hR hc hp hok
  have ta_near : ∀ W, (Instr.typeAssert (.iface 67 (.agg #[])) 50 67 true).run Try.prog W = .ok (.tuple #[.agg #[], .bool true]) W := fun W => by kernel_rfl
  go_enter Try.func22, Try.ntmps22
  go_wp2_with fail
  refine templates_any op d a b _ HOK.out _ ?_
  intro w1 x1 hg1 hx1
  have HF := Lib.hid (HR.out w1 x1 hg1 hx1)
  clear hg1 hx1
  go_wp2_with fail
  exact HF.out

set_option maxRecDepth 100000 in
set_option maxHeartbeats 8000000 in
theorem cand1_any (p : List Ln) (at_ : Nat) (op d a b : Int) (v : Value) (w : World) (hv : LinesAt w v p) (hp : p[at_]? = some ⟨op, d, a, b⟩) (hsz : p.length < 10000000) (R : Ending → World → Prop)
    (hR : ∀ w' x, Grow w w' → LinesAt w' x (validL p ⟨op, d, a, b⟩) → R (.returned x) w') :
    Calls Try.prog 22 #[v, .int .i64 at_, .iface 68 (.agg #[])] w R := by
  have HR := Lib.hid hR
  have HV := Lib.hid hv
  have hlt : at_ < p.length := (List.getElem?_eq_some_iff.1 hp).1
  have HPOS := Lib.hid (show 0 < p.length by omega)
  obtain ⟨va, vc, rfl, v1, v2, v3⟩ := hv
  replace v3 := v3.resolve_left (by intro h; simp [h.1] at hlt)
  obtain ⟨g, o, rfl, hb, hc⟩ := v3
  obtain ⟨f0, f1, f2, f3⟩ := lines_cell hc at_ op d a b hp
  have hlt2 : (at_ : Int) < (p.length : Int) := by omega
  have HSZ := Lib.hid hsz
  have HSM := Lib.hid (show p.length < 4611686018427387904 by omega)
  clear hR hc hp hsz
  have ta_near : ∀ W, (Instr.typeAssert (.iface 68 (.agg #[])) 50 67 true).run Try.prog W = .ok (.tuple #[.agg #[], .bool false]) W := fun W => by kernel_rfl
  have ta_own : ∀ W, (Instr.typeAssert (.iface 68 (.agg #[])) 50 68 true).run Try.prog W = .ok (.tuple #[.agg #[], .bool true]) W := fun W => by kernel_rfl
  go_enter Try.func22, Try.ntmps22
  go_wp2_with fail
  go_region_held3 (fun X => X.cell? ⟨g, o + at_ * 4, none⟩ = some (.int .i64 op) ∧ X.cell? ⟨g, o + at_ * 4 + 1, none⟩ = some (.int .i64 d) ∧ X.cell? ⟨g, o + at_ * 4 + 2, none⟩ = some (.int .i64 a) ∧ X.cell? ⟨g, o + at_ * 4 + 3, none⟩ = some (.int .i64 b) ∧ Grow w X)
    (first | exact ⟨f0, f1, f2, f3, (Grow.refl w).drew⟩ | exact ⟨f0, f1, f2, f3, Grow.refl w⟩ | exact keep4b hb hb9 (by assumption) | exact keep4 hg8 (by assumption))
    (first | (go_at_call 36; refine cloneLn_any p _ _ ?_ (by have := HSZ.out; omega) _ ?_; exact HV.out.grow (And.right (And.right (And.right (And.right ‹_›)))); intro w8 x8 hg8 ho8; obtain ⟨g8, cap8, rfl, k1, k2, k3, k4, hr8⟩ := own_end ho8 HPOS.out; have kb := Nat.le_trans (Grow.sz (And.right (And.right (And.right (And.right ‹_›))))) k1) | (go_at_call 31; refine svalid_any p op d a b g8 _ cap8 w.heap.size _ rfl ?_ ?_ ?_ k3 k4 ?_ _ ?_; (first | exact hr8 | exact hr8.grow ((Grow.refl _).drew) k2); (first | exact k2 | (simp; omega)); exact kb; exact HSM.out; intro w9 hb9 hg9 hr9))
  rename_i hx
  have hgf : Grow w w9 := hx.2.2.2.2
  have HF := Lib.hid (HR.out w9 _ hgf (hr9.slc hg9 (Nat.le_trans (validL_len _ _) k3) k4))
  go_wp2_with fail
  exact HF.out
set_option maxRecDepth 100000 in
set_option maxHeartbeats 8000000 in
theorem cand2_any (p : List Ln) (at_ : Nat) (op d a b : Int) (v : Value) (w : World) (hv : LinesAt w v p) (hp : p[at_]? = some ⟨op, d, a, b⟩) (R : Ending → World → Prop)
    (hR : ∀ w' x, Grow w w' → LinesAt w' x (validL allR ⟨op, d, a, b⟩) → R (.returned x) w') :
    Calls Try.prog 22 #[v, .int .i64 at_, .iface 69 (.agg #[])] w R := by
  have HR := Lib.hid hR
  have hlt : at_ < p.length := (List.getElem?_eq_some_iff.1 hp).1
  obtain ⟨va, vc, rfl, v1, v2, v3⟩ := hv
  replace v3 := v3.resolve_left (by intro h; simp [h.1] at hlt)
  obtain ⟨g, o, rfl, hb, hc⟩ := v3
  obtain ⟨f0, f1, f2, f3⟩ := lines_cell hc at_ op d a b hp
  have hlt2 : (at_ : Int) < (p.length : Int) := by omega
  have HSM := Lib.hid (show allR.length < 4611686018427387904 by decide +kernel)
  clear hR hc hp
  have ta_near : ∀ W, (Instr.typeAssert (.iface 69 (.agg #[])) 50 67 true).run Try.prog W = .ok (.tuple #[.agg #[], .bool false]) W := fun W => by kernel_rfl
  have ta_own : ∀ W, (Instr.typeAssert (.iface 69 (.agg #[])) 50 68 true).run Try.prog W = .ok (.tuple #[.agg #[], .bool false]) W := fun W => by kernel_rfl
  go_enter Try.func22, Try.ntmps22
  go_wp2_with fail
  go_region_held3 (fun X => X.cell? ⟨g, o + at_ * 4, none⟩ = some (.int .i64 op) ∧ X.cell? ⟨g, o + at_ * 4 + 1, none⟩ = some (.int .i64 d) ∧ X.cell? ⟨g, o + at_ * 4 + 2, none⟩ = some (.int .i64 a) ∧ X.cell? ⟨g, o + at_ * 4 + 3, none⟩ = some (.int .i64 b) ∧ Grow w X)
    (first | exact ⟨f0, f1, f2, f3, (Grow.refl w).drew⟩ | exact ⟨f0, f1, f2, f3, Grow.refl w⟩ | exact keep4b hb hb9 (by assumption) | exact keep4 hg8 (by assumption))
    (first | (go_at_call 8; refine All_any _ _ ?_; intro w8 g8 cap8 hg8 k1 k2 k3 k4 hr8; have kb := Nat.le_trans (Grow.sz (And.right (And.right (And.right (And.right ‹_›))))) k1) | (go_at_call 31; refine svalid_any allR op d a b g8 _ cap8 w.heap.size _ rfl ?_ ?_ ?_ k3 k4 ?_ _ ?_; (first | exact hr8 | exact hr8.grow ((Grow.refl _).drew) k2); (first | exact k2 | (simp; omega)); exact kb; exact HSM.out; intro w9 hb9 hg9 hr9))
  rename_i hx
  have hgf : Grow w w9 := hx.2.2.2.2
  have HF := Lib.hid (HR.out w9 _ hgf (hr9.slc hg9 (Nat.le_trans (validL_len _ _) k3) k4))
  go_wp2_with fail
  exact HF.out
end Go.Proofs.Ytbccbokjecdaaaa
