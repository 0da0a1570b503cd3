/- The walks of package code: small functions (check, writes, operations and what they make). -/
import Derived.Test.YtfbfkkaepgcggaaGreatQ04
namespace Go.Proofs.YtfbfkkaepgcggaaGreat
open Go.RowKit

set_option maxHeartbeats 1000000 in
theorem check_any (p : List Ln) (s : List Int) (v u : Value) (w : World) (hp : LinesAt w v p) (hs : IntsAt w u s) (R : Ending → World → Prop) (hR : ∀ w', Grow w w' → R (.returned (.int .i64 (chk p s))) w') :
    Calls Tryz.prog 166 #[v, u] w R := by
  have HP := Lib.hid hp
  have HS := Lib.hid hs
  clear hp hs
  by_cases h : valP p = 0
  · rw [show chk p s = valS s by simp [chk, h]] at hR
    have HE := Lib.hid h
    clear h
    go_enter Tryz.func166, Tryz.ntmps166
    go_wp2_with fail
    refine validate_any p _ _ HP.out _ ?_
    intro w1 hg1
    rw [HE.out]
    go_wp2_with fail
    refine validateState_any s _ _ (HS.out.grow hg1) _ ?_
    intro w2 hg2
    have hg3 := hg1.trans hg2
    clear hg1 hg2
    go_wp2_with fail
    exact hg3
  · rw [show chk p s = valP p by simp [chk, h]] at hR
    generalize hev : valP p = e at h hR
    have HE := Lib.hid hev
    clear hev
    have hb : (e == 0) = false := by simpa using h
    have hb2 : (e != 0) = true := by simpa using h
    go_enter Tryz.func166, Tryz.ntmps166
    go_wp2_with fail
    refine validate_any p _ _ HP.out _ ?_
    intro w1 hg1
    rw [HE.out]
    go_wp2_with fail
    exact hg1

/-- What a line writes to; 0 if it writes nothing. -/
def wrT (op d : Int) : Int := if wrB op then d else 0

set_option maxHeartbeats 1000000 in
theorem writes_any (op d a b : Int) (w : World) (R : Ending → World → Prop) (hR : ∀ w', Grow w w' → R (.returned (.tuple #[.int .i64 (wrT op d), .bool (wrB op)])) w') :
    Calls Tryz.prog 170 #[.agg #[.int .i64 op, .int .i64 d, .int .i64 a, .int .i64 b]] w R := by
  by_cases h : wrB op = true
  · rw [show wrT op d = d by simp [wrT, h], h] at hR
    unfold wrB at h
    go_enter Tryz.func170, Tryz.ntmps170
    go_wp2_with (go_at_call 81; refine within_any _ _ _ _ _ ?_)
    exact (Grow.refl _).alloc _
  · replace h : wrB op = false := by simpa using h
    rw [show wrT op d = 0 by simp [wrT, h], h] at hR
    unfold wrB at h
    go_enter Tryz.func170, Tryz.ntmps170
    go_wp2_with (go_at_call 81; refine within_any _ _ _ _ _ ?_)
    exact (Grow.refl _).alloc _

/-- The table of operations, cell by cell. -/
def opsC : List Value := [.int .i64 0, .nilFunc, .int .i64 0, .func (.func 171) #[] #[], .int .i64 1, .func (.func 172) #[] #[], .int .i64 2, .func (.func 173) #[] #[],
  .int .i64 2, .func (.func 174) #[] #[], .int .i64 2, .func (.func 175) #[] #[], .int .i64 2, .func (.func 176) #[] #[], .int .i64 2, .nilFunc]

set_option maxHeartbeats 1000000 in
theorem operations_any (w : World) (R : Ending → World → Prop) (hR : ∀ w', Grow w w' → R (.returned (.agg opsC.toArray)) w') :
    Calls Tryz.prog 169 #[] w R := by
  go_enter Tryz.func169, Tryz.ntmps169
  go_wp2_with fail
  simp [bodyPost, results, Tryz.results169, go_sem]
  exact hR _ ((Grow.refl _).alloc _)

theorem op1_any (a b n : Int) (w : World) (R : Ending → World → Prop) (hR : R (.returned (.int .i64 n)) w) :
    Calls Tryz.prog 171 #[.int .i64 a, .int .i64 b, .int .i64 n] w R := by
  go_enter Tryz.func171, Tryz.ntmps171
  go_wp2_with fail
  simpa using hR
theorem op2_any (a b n : Int) (w : World) (R : Ending → World → Prop) (hR : R (.returned (.int .i64 a)) w) :
    Calls Tryz.prog 172 #[.int .i64 a, .int .i64 b, .int .i64 n] w R := by
  go_enter Tryz.func172, Tryz.ntmps172
  go_wp2_with fail
  simpa using hR
theorem op3_any (a b n : Int) (w : World) (ha : -9999 ≤ a ∧ a ≤ 9999) (hb : -9999 ≤ b ∧ b ≤ 9999) (R : Ending → World → Prop) (hR : R (.returned (.int .i64 (a + b))) w) :
    Calls Tryz.prog 173 #[.int .i64 a, .int .i64 b, .int .i64 n] w R := by
  obtain ⟨_, _⟩ := ha
  obtain ⟨_, _⟩ := hb
  go_enter Tryz.func173, Tryz.ntmps173
  go_wp2_with fail
  simpa using hR
theorem op4_any (a b n : Int) (w : World) (ha : -9999 ≤ a ∧ a ≤ 9999) (hb : -9999 ≤ b ∧ b ≤ 9999) (R : Ending → World → Prop) (hR : R (.returned (.int .i64 (a - b))) w) :
    Calls Tryz.prog 174 #[.int .i64 a, .int .i64 b, .int .i64 n] w R := by
  obtain ⟨_, _⟩ := ha
  obtain ⟨_, _⟩ := hb
  go_enter Tryz.func174, Tryz.ntmps174
  go_wp2_with fail
  simpa using hR
theorem op5_any (a b n : Int) (w : World) (R : Ending → World → Prop) (hR : R (.returned (.int .i64 (min a b))) w) :
    Calls Tryz.prog 175 #[.int .i64 a, .int .i64 b, .int .i64 n] w R := by
  go_enter Tryz.func175, Tryz.ntmps175
  first
    | (go_wp2_with fail; exact hR)
    | (go_wp2_with fail
       · rw [show min a b = b by omega] at hR; simpa using hR
       · rw [show min a b = a by omega] at hR; simpa using hR)
theorem op6_any (a b n : Int) (w : World) (R : Ending → World → Prop) (hR : R (.returned (.int .i64 (max a b))) w) :
    Calls Tryz.prog 176 #[.int .i64 a, .int .i64 b, .int .i64 n] w R := by
  go_enter Tryz.func176, Tryz.ntmps176
  first
    | (go_wp2_with fail; exact hR)
    | (go_wp2_with fail
       · rw [show max a b = b by omega] at hR; simpa using hR
       · rw [show max a b = a by omega] at hR; simpa using hR)

theorem free_any (i : Int) (w : World) (R : Ending → World → Prop) (hR : R (.returned (.tuple #[.int .i64 0, .bool false])) w) :
    Calls Tryz.prog 168 #[.int .i64 i] w R := by
  go_enter Tryz.func168, Tryz.ntmps168
  go_wp2_with fail
  simpa using hR

end Go.Proofs.YtfbfkkaepgcggaaGreat
