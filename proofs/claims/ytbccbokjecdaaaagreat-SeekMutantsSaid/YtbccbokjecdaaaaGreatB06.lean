/-
The walk of the document's Validate.
The walks of package code: small functions (check, writes, operations and what they make).
The walks of package check: which tests are valid.
-/
import Derived.Test.YtbccbokjecdaaaaGreatB05
import Derived.Test.YtbccbokjecdaaaaGreatB02
import Derived.Test.YtbccbokjecdaaaaGreatRows
namespace Go.Proofs.YtbccbokjecdaaaaGreat
open Go.RowKit

set_option maxHeartbeats 2000000 in
theorem rValidate_any (p : List Ln) (v : Value) (w : World) (hp : LinesAt w v p) (R : Ending → World → Prop) (hR : ∀ w', Grow w w' → R (.returned (.int .i64 (valP p))) w') :
    Calls Tryz.prog 55 #[v] w R := by
  obtain ⟨a, c, rfl, h1, h2, h3⟩ := hp
  by_cases hl : 8 < p.length
  · rw [show valP p = 3 by simp [valP, hl]] at hR
    go_enter Tryz.func55, Tryz.ntmps55
    go_wp2_with fail
    exact Grow.refl _
  · have hV : valP p = errB (p.all Ln.ok) := by simp [valP, hl]
    rw [hV] at hR
    clear hV
    have hm : p.length ≤ 9223372036854775807 := by omega
    go_enter Tryz.func55, Tryz.ntmps55
    go_wp2_with fail
    go_loopw [3] (fun i wr => ∃ k : Nat, k ≤ p.length ∧ i = .int .i64 k ∧ Grow w wr ∧ ∀ l ∈ p.take k, Ln.ok l = true) (fun i _ => p.length - (intOf i).toNat)
    case atStart => exact ⟨0, Nat.zero_le _, rfl, Grow.refl _, by simp⟩
    case round =>
      obtain ⟨k, hk, rfl, hg, hall⟩ := hrel
      by_cases hlt : k < p.length
      · replace h3 := h3.resolve_left (by intro h; simp [h] at hlt)
        obtain ⟨b, o, rfl, hb, hc⟩ := h3
        obtain ⟨⟨op, d, x, y⟩, hx⟩ : ∃ l, p[k]? = some l := ⟨_, List.getElem?_eq_getElem hlt⟩
        obtain ⟨c0, c1, c2, c3⟩ := lines_cell hc k op d x y hx
        have e0 := hg.cell c0
        have e1 := hg.cell c1
        have e2 := hg.cell c2
        have e3 := hg.cell c3
        have hz := hg.sz
        clear hc c0 c1 c2 c3
        have HX := Lib.hid hx
        have HA := Lib.hid hall
        have HG := Lib.hid hg
        clear hx hall hg
        cases hv : vL op d x y with
        | true =>
          go_wp2_with fail
          refine risLine_any _ _ _ _ _ _ ?_
          intro w1 hg1
          rw [hv]
          have hg2 := HG.out.trans hg1
          clear hg1
          go_wp2_with fail
          go_roundw
          case rel => exact ⟨k + 1, by omega, by go_num, hg2, all_take_succ HA.out HX.out hv⟩
          case measure => simp [intOf]; omega
        | false =>
          rw [all_false_at HX.out hv] at hR
          rw [show errB false = 1 from rfl] at hR
          have HR := Lib.hid hR
          clear hR
          go_wp2_with fail
          refine risLine_any _ _ _ _ _ _ ?_
          intro w1 hg1
          rw [hv]
          have hg2 := HG.out.trans hg1
          clear hg1
          go_wp2_with fail
          exact HR.out _ hg2
      · rw [all_of_take hall (by omega)] at hR
        rw [show errB true = 0 from rfl] at hR
        go_wp2_with fail
        exact hg
end Go.Proofs.YtbccbokjecdaaaaGreat

namespace Go.Proofs.YtbccbokjecdaaaaGreat
open Go.RowKit

set_option maxHeartbeats 1000000 in
theorem check_any (p : List Ln) (s : List Int) (v u : Value) (w : World) (hp : LinesAt w v p) (hs : IntsAt w u s) (R : Ending → World → Prop) (hR : ∀ w', Grow w w' → R (.returned (.int .i64 (chk p s))) w') :
    Calls Tryz.prog 176 #[v, u] w R := by
  have HP := Lib.hid hp
  have HS := Lib.hid hs
  clear hp hs
  by_cases h : valP p = 0
  · rw [show chk p s = valS s by simp [chk, h]] at hR
    have HE := Lib.hid h
    clear h
    go_enter Tryz.func176, Tryz.ntmps176
    go_wp2_with fail
    refine validate_any p _ _ HP.out _ ?_
    intro w1 hg1
    rw [HE.out]
    go_wp2_with fail
    refine validateState_any s _ _ (HS.out.grow hg1) _ ?_
    intro w2 hg2
    have hg3 := hg1.trans hg2
    clear hg1 hg2
    go_wp2_with fail
    exact hg3
  · rw [show chk p s = valP p by simp [chk, h]] at hR
    generalize hev : valP p = e at h hR
    have HE := Lib.hid hev
    clear hev
    have hb : (e == 0) = false := by simpa using h
    have hb2 : (e != 0) = true := by simpa using h
    go_enter Tryz.func176, Tryz.ntmps176
    go_wp2_with fail
    refine validate_any p _ _ HP.out _ ?_
    intro w1 hg1
    rw [HE.out]
    go_wp2_with fail
    exact hg1

/-- What a line writes to; 0 if it writes nothing. -/
def wrT (op d : Int) : Int := if wrB op then d else 0

set_option maxHeartbeats 1000000 in
theorem writes_any (op d a b : Int) (w : World) (R : Ending → World → Prop) (hR : ∀ w', Grow w w' → R (.returned (.tuple #[.int .i64 (wrT op d), .bool (wrB op)])) w') :
    Calls Tryz.prog 194 #[.agg #[.int .i64 op, .int .i64 d, .int .i64 a, .int .i64 b]] w R := by
  by_cases h : wrB op = true
  · rw [show wrT op d = d by simp [wrT, h], h] at hR
    unfold wrB at h
    go_enter Tryz.func194, Tryz.ntmps194
    go_wp2_with (go_at_call 128; refine within_any _ _ _ _ _ ?_)
    exact (Grow.refl _).alloc _
  · replace h : wrB op = false := by simpa using h
    rw [show wrT op d = 0 by simp [wrT, h], h] at hR
    unfold wrB at h
    go_enter Tryz.func194, Tryz.ntmps194
    go_wp2_with (go_at_call 128; refine within_any _ _ _ _ _ ?_)
    exact (Grow.refl _).alloc _

/-- The table of operations, cell by cell. -/
def opsC : List Value := [.int .i64 0, .nilFunc, .int .i64 0, .func (.func 211) #[] #[], .int .i64 1, .func (.func 212) #[] #[], .int .i64 2, .func (.func 213) #[] #[],
  .int .i64 2, .func (.func 214) #[] #[], .int .i64 2, .func (.func 215) #[] #[], .int .i64 2, .func (.func 216) #[] #[], .int .i64 2, .nilFunc]

set_option maxHeartbeats 1000000 in
theorem operations_any (w : World) (R : Ending → World → Prop) (hR : ∀ w', Grow w w' → R (.returned (.agg opsC.toArray)) w') :
    Calls Tryz.prog 193 #[] w R := by
  go_enter Tryz.func193, Tryz.ntmps193
  go_wp2_with fail
  simp [bodyPost, results, Tryz.results193, go_sem]
  exact hR _ ((Grow.refl _).alloc _)

theorem op1_any (a b n : Int) (w : World) (R : Ending → World → Prop) (hR : R (.returned (.int .i64 n)) w) :
    Calls Tryz.prog 211 #[.int .i64 a, .int .i64 b, .int .i64 n] w R := by
  go_enter Tryz.func211, Tryz.ntmps211
  go_wp2_with fail
  simpa using hR
theorem op2_any (a b n : Int) (w : World) (R : Ending → World → Prop) (hR : R (.returned (.int .i64 a)) w) :
    Calls Tryz.prog 212 #[.int .i64 a, .int .i64 b, .int .i64 n] w R := by
  go_enter Tryz.func212, Tryz.ntmps212
  go_wp2_with fail
  simpa using hR
theorem op3_any (a b n : Int) (w : World) (ha : -9999 ≤ a ∧ a ≤ 9999) (hb : -9999 ≤ b ∧ b ≤ 9999) (R : Ending → World → Prop) (hR : R (.returned (.int .i64 (a + b))) w) :
    Calls Tryz.prog 213 #[.int .i64 a, .int .i64 b, .int .i64 n] w R := by
  obtain ⟨_, _⟩ := ha
  obtain ⟨_, _⟩ := hb
  go_enter Tryz.func213, Tryz.ntmps213
  go_wp2_with fail
  simpa using hR
theorem op4_any (a b n : Int) (w : World) (ha : -9999 ≤ a ∧ a ≤ 9999) (hb : -9999 ≤ b ∧ b ≤ 9999) (R : Ending → World → Prop) (hR : R (.returned (.int .i64 (a - b))) w) :
    Calls Tryz.prog 214 #[.int .i64 a, .int .i64 b, .int .i64 n] w R := by
  obtain ⟨_, _⟩ := ha
  obtain ⟨_, _⟩ := hb
  go_enter Tryz.func214, Tryz.ntmps214
  go_wp2_with fail
  simpa using hR
theorem op5_any (a b n : Int) (w : World) (R : Ending → World → Prop) (hR : R (.returned (.int .i64 (min a b))) w) :
    Calls Tryz.prog 215 #[.int .i64 a, .int .i64 b, .int .i64 n] w R := by
  go_enter Tryz.func215, Tryz.ntmps215
  go_wp2_with fail
  · rw [show min a b = b by omega] at hR; simpa using hR
  · rw [show min a b = a by omega] at hR; simpa using hR
theorem op6_any (a b n : Int) (w : World) (R : Ending → World → Prop) (hR : R (.returned (.int .i64 (max a b))) w) :
    Calls Tryz.prog 216 #[.int .i64 a, .int .i64 b, .int .i64 n] w R := by
  go_enter Tryz.func216, Tryz.ntmps216
  go_wp2_with fail
  · rw [show max a b = b by omega] at hR; simpa using hR
  · rw [show max a b = a by omega] at hR; simpa using hR

theorem free_any (i : Int) (w : World) (R : Ending → World → Prop) (hR : R (.returned (.tuple #[.int .i64 0, .bool false])) w) :
    Calls Tryz.prog 178 #[.int .i64 i] w R := by
  go_enter Tryz.func178, Tryz.ntmps178
  go_wp2_with fail
  simpa using hR

end Go.Proofs.YtbccbokjecdaaaaGreat

namespace Go.Proofs.YtbccbokjecdaaaaGreat
open Go.RowKit

theorem cwithin_any (n lo hi : Int) (w : World) (R : Ending → World → Prop) (hR : R (.returned (.bool (inB n lo hi))) w) :
    Calls Tryz.prog 190 #[.int .i64 n, .int .i64 lo, .int .i64 hi] w R := by
  by_cases h : lo ≤ n
  · by_cases h2 : n ≤ hi
    · rw [inB_true.2 ⟨h, h2⟩] at hR
      go_enter Tryz.func190, Tryz.ntmps190
      go_wp2
      simpa using hR
    · rw [inB_false.2 (by omega)] at hR
      go_enter Tryz.func190, Tryz.ntmps190
      go_wp2
      simpa using hR
  · rw [inB_false.2 (by omega)] at hR
    go_enter Tryz.func190, Tryz.ntmps190
    go_wp2
    simpa using hR
theorem box3 {w : World} {b : Nat} {c0 c1 c2 : Value} {e : TypeId} (h : w.heap[b]? = some (.cells #[c0, c1, c2] e (0, 0))) : w.cell? ⟨b, 0, none⟩ = some c0 ∧ w.cell? ⟨b, 1, none⟩ = some c1 ∧ w.cell? ⟨b, 2, none⟩ = some c2 := by
  refine ⟨?_, ?_, ?_⟩ <;> (unfold World.cell?; simp only [h]; rfl)
theorem cisRegister_any (n : Int) (w : World) (R : Ending → World → Prop) (hR : R (.returned (.bool (inB n 0 3))) w) :
    Calls Tryz.prog 167 #[.int .i64 n] w R := by
  go_enter Tryz.func167, Tryz.ntmps167
  go_wp2_with (go_at_call 190; refine (cwithin_any _ _ _ _ _ ?_))
  simpa using hR
theorem cisValue_any (n : Int) (w : World) (R : Ending → World → Prop) (hR : R (.returned (.bool (inB n (-999) 999))) w) :
    Calls Tryz.prog 168 #[.int .i64 n] w R := by
  go_enter Tryz.func168, Tryz.ntmps168
  go_wp2_with (go_at_call 190; refine (cwithin_any _ _ _ _ _ ?_))
  simpa using hR
set_option maxHeartbeats 1000000 in
theorem isState_any (s : List Int) (v : Value) (w : World) (hs : IntsAt w v s) (R : Ending → World → Prop) (hR : ∀ w', Grow w w' → R (.returned (.bool (decide (valS s = 0)))) w') :
    Calls Tryz.prog 166 #[v] w R := by
  have HS := Lib.hid hs
  have HR := Lib.hid hR
  obtain ⟨e, he⟩ : ∃ e, valS s = e := ⟨_, rfl⟩
  rw [he] at HR
  have HE := Lib.hid he
  obtain ⟨a, c, rfl, _⟩ := hs
  clear hR he
  have t1 : (e == 0) = decide (e = 0) := by by_cases h : e = 0 <;> simp [h]
  generalize decide (e = 0) = b at HR t1
  go_enter Tryz.func166, Tryz.ntmps166
  go_wp2_with fail
  refine validateState_any s _ _ HS.out _ ?_
  intro w1 hg1
  rw [HE.out]
  have HF := Lib.hid (HR.out w1 hg1)
  clear hg1
  go_wp2_with fail
  exact HF.out

set_option maxRecDepth 100000 in
set_option maxHeartbeats 4000000 in
theorem isTest_any (t : Tst) (w : World) (ht : IntsAt w t.v t.xs) (R : Ending → World → Prop) (hR : ∀ w', Grow w w' → R (.returned (.bool t.ok)) w') :
    Calls Tryz.prog 145 #[.agg #[t.v, .int .i64 t.o, .int .i64 t.wt]] w R := by
  obtain ⟨v, xs, o, wt⟩ := t
  have HT := Lib.hid ht
  dsimp only at ht ⊢
  have hok : Tst.ok ⟨v, xs, o, wt⟩ = (decide (valS xs = 0) && inB o 0 3 && inB wt (-999) 999) := rfl
  rw [hok] at hR
  have HR := Lib.hid hR
  clear hR hok
  obtain ⟨a, c, rfl, _⟩ := ht
  obtain ⟨b0, h0⟩ : ∃ b, decide (valS xs = 0) = b := ⟨_, rfl⟩
  obtain ⟨b1, h1⟩ : ∃ b, inB o 0 3 = b := ⟨_, rfl⟩
  obtain ⟨b2, h2⟩ : ∃ b, inB wt (-999) 999 = b := ⟨_, rfl⟩
  rw [h0, h1, h2] at HR
  have H0 := Lib.hid h0
  have H1 := Lib.hid h1
  have H2 := Lib.hid h2
  clear h0 h1 h2
  cases b0 with
  | false =>
    go_enter Tryz.func145, Tryz.ntmps145
    go_wp2_with fail
    have hb := heap_alloc_new w (.cells #[.slice a xs.length c, .int .i64 o, .int .i64 wt] 50)
    have hg := (Grow.refl w).alloc (.cells #[.slice a xs.length c, .int .i64 o, .int .i64 wt] 50)
    generalize w.alloc (.cells #[.slice a xs.length c, .int .i64 o, .int .i64 wt] 50) = W at hb hg ⊢
    refine isState_any xs _ _ (HT.out.grow hg) _ ?_
    intro w1 hg1
    rw [H0.out]
    have hb1 := hg1.blk hb
    obtain ⟨c0, c1, c2⟩ := box3 hb1
    have hz := lt_of_block hb1
    have HF := Lib.hid (HR.out w1 (hg.trans hg1))
    clear hb hg hg1 hb1
    go_wp2_with fail
    exact HF.out
  | true =>
    cases b1 with
    | false =>
      go_enter Tryz.func145, Tryz.ntmps145
      go_wp2_with fail
      have hb := heap_alloc_new w (.cells #[.slice a xs.length c, .int .i64 o, .int .i64 wt] 50)
      have hg := (Grow.refl w).alloc (.cells #[.slice a xs.length c, .int .i64 o, .int .i64 wt] 50)
      generalize w.alloc (.cells #[.slice a xs.length c, .int .i64 o, .int .i64 wt] 50) = W at hb hg ⊢
      refine isState_any xs _ _ (HT.out.grow hg) _ ?_
      intro w1 hg1
      rw [H0.out]
      have hb1 := hg1.blk hb
      obtain ⟨c0, c1, c2⟩ := box3 hb1
      have hz := lt_of_block hb1
      have HF := Lib.hid (HR.out w1 (hg.trans hg1))
      clear hb hg hg1 hb1
      go_wp2_with fail
      refine cisRegister_any _ _ _ ?_
      rw [H1.out]
      go_wp2_with fail
      exact HF.out
    | true =>
      go_enter Tryz.func145, Tryz.ntmps145
      go_wp2_with fail
      have hb := heap_alloc_new w (.cells #[.slice a xs.length c, .int .i64 o, .int .i64 wt] 50)
      have hg := (Grow.refl w).alloc (.cells #[.slice a xs.length c, .int .i64 o, .int .i64 wt] 50)
      generalize w.alloc (.cells #[.slice a xs.length c, .int .i64 o, .int .i64 wt] 50) = W at hb hg ⊢
      refine isState_any xs _ _ (HT.out.grow hg) _ ?_
      intro w1 hg1
      rw [H0.out]
      have hb1 := hg1.blk hb
      obtain ⟨c0, c1, c2⟩ := box3 hb1
      have hz := lt_of_block hb1
      have HF := Lib.hid (HR.out w1 (hg.trans hg1))
      clear hb hg hg1 hb1
      go_wp2_with fail
      refine cisRegister_any _ _ _ ?_
      rw [H1.out]
      go_wp2_with fail
      refine cisValue_any _ _ _ ?_
      rw [H2.out]
      go_wp2_with fail
      exact HF.out

/-- A predicate on tests that a function with captured values answers. -/
def PredT (g : Nat) (cb : Array Value) (w : World) (ts : List Tst) (pr : Tst → Bool) : Prop :=
  ∀ t, t ∈ ts → ∀ W, Grow w W → ∀ R : Ending → World → Prop, (∀ W', Grow W W' → R (.returned (.bool (pr t))) W') → Calls Tryz.prog g (#[.agg #[t.v, .int .i64 t.o, .int .i64 t.wt]] ++ cb) W R
theorem any_at {α : Type} {pr : α → Bool} {xs : List α} {k : Nat} {x : α} (hx : xs[k]? = some x) (hp : pr x = true) : xs.any pr = true := List.any_eq_true.2 ⟨x, List.mem_of_getElem? hx, hp⟩
theorem any_none {α : Type} {pr : α → Bool} {xs : List α} {k : Nat} (h : ∀ y ∈ xs.take k, pr y = false) (hk : xs.length ≤ k) : xs.any pr = false := by
  rw [List.take_of_length_le hk] at h
  exact List.any_eq_false.2 fun x hx => by rw [h x hx]; decide
theorem take_succ_false' {α : Type} {pr : α → Bool} {xs : List α} {k : Nat} {x : α} (h : ∀ y ∈ xs.take k, pr y = false) (hx : xs[k]? = some x) (hp : pr x = false) : ∀ y ∈ xs.take (k + 1), pr y = false := by
  intro y hy
  rw [List.take_add_one, hx] at hy
  rcases List.mem_append.1 hy with hy | hy
  · exact h y hy
  · simp at hy; subst hy; exact hp

set_option maxHeartbeats 2000000 in
theorem indexFuncT_any (g : Nat) (cb : Array Value) (eg : Enters Tryz.prog g) (pr : Tst → Bool) (ts : List Tst) (v : Value) (w : World) (hx : SlcAt 3 encTs w v ts) (hp : PredT g cb w ts pr)
    (R : Ending → World → Prop) (hR1 : ∀ w' (k : Nat), Grow w w' → ts.any pr = true → R (.returned (.int .i64 k)) w') (hR2 : ∀ w', Grow w w' → ts.any pr = false → R (.returned (.int .i64 (-1))) w') :
    Calls Tryz.prog 165 #[v, .func (.func g) #[] cb] w R := by
  have HX := Lib.hid hx
  obtain ⟨a, c, rfl, h1, h2, _⟩ := hx
  have hm : ts.length ≤ 9223372036854775807 := by omega
  have HR1 := Lib.hid hR1
  have HR2 := Lib.hid hR2
  have HP := Lib.hid hp
  unfold Enters at eg
  clear hR1 hR2 hp
  go_enter Tryz.func165, Tryz.ntmps165
  go_wp2_with fail
  go_loopw [4, 5, 8] (fun _ _ i wr => ∃ k : Nat, k ≤ ts.length ∧ i = .int .i64 k ∧ Grow w wr ∧ ∀ y ∈ ts.take k, pr y = false) (fun _ _ i _ => ts.length - (intOf i).toNat)
  case atStart => exact ⟨0, Nat.zero_le _, rfl, Grow.refl _, by simp⟩
  case round =>
    obtain ⟨k, hk, rfl, hg, hall⟩ := hrel
    have HALL := Lib.hid hall
    have HG := Lib.hid hg
    clear hall hg
    by_cases hlt : k < ts.length
    · obtain ⟨t, ht⟩ : ∃ x, ts[k]? = some x := ⟨_, List.getElem?_eq_getElem hlt⟩
      obtain ⟨b, o, rfl, hb, e0, e1, e2⟩ := tests_at (HX.out.grow HG.out) ht
      have HT := Lib.hid ht
      have HMEM := Lib.hid (List.mem_of_getElem? ht)
      clear ht
      by_cases hv : pr t = true
      · have HA := Lib.hid (any_at HT.out hv)
        have HV := Lib.hid hv
        clear hv
        go_wp2_with fail
        refine HP.out t HMEM.out _ HG.out _ ?_
        intro w1 hg1
        rw [HV.out]
        have HF := Lib.hid (HR1.out w1 k (HG.out.trans hg1) HA.out)
        clear hg1
        go_wp2_with fail
        exact HF.out
      · replace hv : pr t = false := by simpa using hv
        have HV := Lib.hid hv
        clear hv
        go_wp2_with fail
        refine HP.out t HMEM.out _ HG.out _ ?_
        intro w1 hg1
        rw [HV.out]
        have HG2 := Lib.hid (HG.out.trans hg1)
        clear hg1
        go_wp2_with fail
        go_roundw
        case rel => exact ⟨k + 1, by omega, by go_num, HG2.out, take_succ_false' HALL.out HT.out HV.out⟩
        case measure => simp [intOf]; omega
    · have HF := Lib.hid (HR2.out _ HG.out (any_none HALL.out (by omega)))
      go_wp2_with fail
      exact HF.out

set_option maxHeartbeats 1000000 in
theorem containsFuncT_any (g : Nat) (cb : Array Value) (eg : Enters Tryz.prog g) (pr : Tst → Bool) (ts : List Tst) (v : Value) (w : World) (hx : SlcAt 3 encTs w v ts) (hp : PredT g cb w ts pr)
    (R : Ending → World → Prop) (hR : ∀ w', Grow w w' → R (.returned (.bool (ts.any pr))) w') :
    Calls Tryz.prog 143 #[v, .func (.func g) #[] cb] w R := by
  have HR := Lib.hid hR
  clear hR
  go_enter Tryz.func143, Tryz.ntmps143
  go_wp2_with fail
  refine indexFuncT_any g cb eg pr ts v _ hx hp _ ?_ ?_
  · intro w1 k hg1 h
    have HF := Lib.hid (HR.out w1 hg1)
    rw [h] at HF
    have hk : (k : Int) ≥ 0 := by omega
    clear h hg1
    go_wp2_with fail
    exact HF.out
  · intro w1 hg1 h
    have HF := Lib.hid (HR.out w1 hg1)
    rw [h] at HF
    clear h hg1
    go_wp2_with fail
    exact HF.out

set_option maxHeartbeats 1000000 in
theorem testF_any (t : Tst) (w : World) (ht : IntsAt w t.v t.xs) (R : Ending → World → Prop) (hR : ∀ w', Grow w w' → R (.returned (.bool (!t.ok))) w') :
    Calls Tryz.prog 144 #[.agg #[t.v, .int .i64 t.o, .int .i64 t.wt]] w R := by
  have HT := Lib.hid ht
  have HR := Lib.hid hR
  obtain ⟨b, hb⟩ : ∃ b, t.ok = b := ⟨_, rfl⟩
  rw [hb] at HR
  have HB := Lib.hid hb
  clear hb hR
  obtain ⟨a, c, hv, _⟩ := ht
  obtain ⟨v, xs, o, wt⟩ := t
  dsimp only at hv
  subst hv
  dsimp only at HT ⊢
  go_enter Tryz.func144, Tryz.ntmps144
  go_wp2_with fail
  have hg := (Grow.refl w).alloc (.cells #[.slice a xs.length c, .int .i64 o, .int .i64 wt] 50)
  generalize w.alloc (.cells #[.slice a xs.length c, .int .i64 o, .int .i64 wt] 50) = W at hg ⊢
  refine isTest_any ⟨.slice a xs.length c, xs, o, wt⟩ _ (HT.out.grow hg) _ ?_
  intro w1 hg1
  rw [HB.out]
  have HF := Lib.hid (HR.out w1 (hg.trans hg1))
  clear hg hg1
  cases b <;> (go_wp2_with fail; exact HF.out)

theorem any_not_ok (ts : List Tst) : (ts.any fun t => !t.ok) = !(ts.all Tst.ok) := by
  rw [List.not_all_eq_any_not]
set_option maxHeartbeats 1000000 in
theorem validateTests_any (ts : List Tst) (v : Value) (w : World) (hx : TestsAt w v ts) (R : Ending → World → Prop) (hR : ∀ w', Grow w w' → R (.returned (.int .i64 (valT ts))) w') :
    Calls Tryz.prog 101 #[v] w R := by
  have HX := Lib.hid hx
  have HR := Lib.hid hR
  obtain ⟨⟨a, c, rfl, h1, h2, _⟩, _⟩ := hx
  clear hR
  by_cases hl : 8 < ts.length
  · have hv : valT ts = 3 := by unfold valT; rw [if_pos hl]
    rw [hv] at HR
    have hl2 : (ts.length : Int) > 8 := by omega
    go_enter Tryz.func101, Tryz.ntmps101
    go_wp2_with fail
    exact HR.out _ (Grow.refl _)
  · have hv : valT ts = errB (ts.all Tst.ok) := by unfold valT; rw [if_neg hl]
    rw [hv] at HR
    clear hv
    have hl2 : ¬ (ts.length : Int) > 8 := by omega
    have hpred : PredT 144 #[] w ts (fun t => !t.ok) := fun t ht W hg R hR => testF_any t W ((HX.out.ins t ht).grow hg) R hR
    have HPR := Lib.hid hpred
    have HAN := Lib.hid (any_not_ok ts)
    clear hpred
    generalize ts.all Tst.ok = b at HR HAN
    have eg : Enters Tryz.prog 144 := enters_of Tryz.func144 (by kernel_rfl) rfl
    go_enter Tryz.func101, Tryz.ntmps101
    go_wp2_with fail
    refine containsFuncT_any 144 #[] eg (fun t => !t.ok) ts _ _ HX.out.at_ HPR.out _ ?_
    intro w1 hg1
    rw [HAN.out]
    have HF := Lib.hid (HR.out w1 hg1)
    clear hg1
    cases b with
    | true =>
      rw [errB_true] at HF
      go_wp2_with fail
      exact HF.out
    | false =>
      rw [errB_false] at HF
      go_wp2_with fail
      exact HF.out
end Go.Proofs.YtbccbokjecdaaaaGreat
