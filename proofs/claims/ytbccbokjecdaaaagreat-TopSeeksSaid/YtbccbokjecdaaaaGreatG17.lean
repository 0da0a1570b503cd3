/-
Which tests a mutant breaks, as the document says it; and that the mutants have valid lines: plain laws.
The walk of the library's Compare on lists of numbers.
-/
import Derived.Test.YtbccbokjecdaaaaGreatG16
import Derived.Test.YtbccbokjecdaaaaGreatG04
namespace Go.Proofs.YtbccbokjecdaaaaGreat
open Go.RowKit

def brkF (p q : List Ln) (t : Tst) : Bool := passM p t && !passM q t
theorem brkM_eq (p q : List Ln) (ts : List Tst) : brkM p q ts = whereL (brkF p q) ts := by
  unfold brkM
  refine congrArg (fun f => whereL f ts) (funext fun t => ?_)
  exact Bool.and_comm _ _

/-- A mutant at a place of the program, whose line is valid. -/
theorem mutM_kil {p : List Ln} {ts : List Tst} (hp : valP p = 0) (ht : valT ts = 0) {e : Ed} (h : e ∈ mutM p p.length) : ∃ n : Nat, n < p.length ∧ e.at_ = n ∧ e.l.ok = true ∧ brkO p [e] ts = brkM p (setAll p [e]) ts := by
  obtain ⟨n, x, hn, rfl, hx⟩ := mem_mutM.1 h
  refine ⟨n, hn, rfl, tmpl_ok hx, (brkO_kil (kilE_ok.2 ⟨⟨hp, ht⟩, ⟨by dsimp only; omega, by dsimp only; omega⟩, hx⟩)).2⟩

end Go.Proofs.YtbccbokjecdaaaaGreat

namespace Go.Proofs.YtbccbokjecdaaaaGreat
open Go.RowKit

theorem cmpIs_cons (x y : Int) (a b : List Int) : cmpIs (x :: a) (y :: b) = if cmpI x y = 0 then cmpIs a b else cmpI x y := rfl
theorem ltIs_cons (x y : Int) (a b : List Int) : ltIs (x :: a) (y :: b) = if x = y then ltIs a b else decide (x < y) := rfl
set_option maxHeartbeats 4000000 in
theorem compareIs_any (xs ys : List Int) (v u : Value) (w : World) (hx : IntsAt w v xs) (hy : IntsAt w u ys) (R : Ending → World → Prop)
    (hR : R (.returned (.int .i64 (cmpIs xs ys))) w) :
    Calls Tryz.prog 74 #[v, u] w R := by
  have HX := Lib.hid hx
  have HY := Lib.hid hy
  have HR := Lib.hid hR
  obtain ⟨xa, xc, rfl, x1, x2, jk1⟩ := hx
  obtain ⟨ya, yc, rfl, y1, y2, jk2⟩ := hy
  clear hR jk1 jk2
  go_enter Tryz.func74, Tryz.ntmps74
  go_wp2_with fail
  go_loopw [5, 6, 7, 8, 11] (fun _ _ _ _ i wr => ∃ k : Nat, k ≤ xs.length ∧ k ≤ ys.length ∧ i = .int .i64 k ∧ wr = w ∧ cmpIs xs ys = cmpIs (xs.drop k) (ys.drop k)) (fun _ _ _ _ i _ => xs.length - (intOf i).toNat)
  case atStart => exact ⟨0, Nat.zero_le _, Nat.zero_le _, rfl, rfl, rfl⟩
  case round =>
    obtain ⟨k, hkx, hky, rfl, rfl, hq⟩ := hrel
    have HQ := Lib.hid hq
    clear hq
    by_cases hlx : k < xs.length
    · obtain ⟨x, hx⟩ : ∃ x, xs[k]? = some x := ⟨_, List.getElem?_eq_getElem hlx⟩
      obtain ⟨gb, o, rfl, hb, e0⟩ := ints_at HX.out hx
      have hlx2 : (k : Int) < (xs.length : Int) := by omega
      have HDX := Lib.hid (drop_cons hx)
      clear hx
      by_cases hly : k < ys.length
      · obtain ⟨y, hy⟩ : ∃ y, ys[k]? = some y := ⟨_, List.getElem?_eq_getElem hly⟩
        obtain ⟨gb2, o2, rfl, hb2, f0⟩ := ints_at HY.out hy
        have hly2 : (k : Int) < (ys.length : Int) := by omega
        have hly3 : ¬ (k : Int) ≥ (ys.length : Int) := by omega
        have hq2 := HQ.out
        rw [HDX.out, drop_cons hy] at hq2
        have HQ2 := Lib.hid hq2
        clear hy hq2
        go_wp2_with fail
        refine cmpI_any _ _ _ _ ?_
        obtain ⟨c, hc⟩ : ∃ c, cmpI x y = c := ⟨_, rfl⟩
        rw [hc]
        have hq3 := HQ2.out
        rw [cmpIs_cons] at hq3
        rw [hc] at hq3
        by_cases hc0 : c = 0
        · rw [if_pos hc0] at hq3
          have HQ3 := Lib.hid hq3
          subst hc0
          clear hq3 hc
          go_wp2_with fail
          go_roundw
          case rel => exact ⟨k + 1, by omega, by omega, by go_num, by first | rfl | trivial, HQ3.out⟩
          case measure => simp [intOf]; omega
        · rw [if_neg hc0] at hq3
          have hr := HR.out
          rw [hq3] at hr
          have HF := Lib.hid hr
          have t1 : (c != 0) = true := by simpa using hc0
          clear hq3 hc hr
          go_wp2_with fail
          exact HF.out
      · have hly3 : (k : Int) ≥ (ys.length : Int) := by omega
        have hq2 := HQ.out
        rw [HDX.out, List.drop_eq_nil_of_le (show ys.length ≤ k by omega)] at hq2
        have hr := HR.out
        rw [hq2] at hr
        have HF := Lib.hid (show R (.returned (.int .i64 1)) wr from hr)
        clear hq2 hr
        go_wp2_with fail
        exact HF.out
    · have hq2 := HQ.out
      have hlx2 : ¬ (k : Int) < (xs.length : Int) := by omega
      rw [List.drop_eq_nil_of_le (show xs.length ≤ k by omega)] at hq2
      by_cases hly : k < ys.length
      · obtain ⟨y, hy⟩ : ∃ y, ys[k]? = some y := ⟨_, List.getElem?_eq_getElem hly⟩
        rw [drop_cons hy] at hq2
        have hr := HR.out
        rw [hq2] at hr
        have HF := Lib.hid (show R (.returned (.int .i64 (-1))) wr from hr)
        have hly3 : (xs.length : Int) < (ys.length : Int) := by omega
        clear hq2 hr hy
        go_wp2_with fail
        exact HF.out
      · rw [List.drop_eq_nil_of_le (show ys.length ≤ k by omega)] at hq2
        have hr := HR.out
        rw [hq2] at hr
        have HF := Lib.hid (show R (.returned (.int .i64 0)) wr from hr)
        have hly3 : ¬ (xs.length : Int) < (ys.length : Int) := by omega
        clear hq2 hr
        go_wp2_with fail
        exact HF.out

end Go.Proofs.YtbccbokjecdaaaaGreat
