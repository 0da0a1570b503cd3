/- The walks of CanExchange, the program's and the document's. -/
import Derived.Test.YtmaphlbmmemgcaaPlX
import Derived.Test.YtmaphlbmmemgcaaIndB
import Derived.Test.YtmaphlbmmemgcaaHelp
import Derived.Test.YtmaphlbmmemgcaaRefC
import Derived.StillTailTactics
namespace Go.Proofs.Ytmaphlbmmemgcaa
open Go.RowKit

/-- A skip that leads between two lines. -/
def jmpAt (p : List Ln) (m s : Nat) : Bool := (p.getD s default).op == 7 && ((s : Int) + 1 + (p.getD s default).d == (m : Int) + 1)
def jmp (p : List Ln) (m : Nat) : Bool := (List.range m).any (jmpAt p m)
def canE (p : List Ln) (at_ : Int) : Int := if valP p = 0 then (if inB at_ 0 (p.length - 2) then 0 else 4) else valP p
def canB (p : List Ln) (at_ : Int) : Bool := decide (canE p at_ = 0) && (!jmp p at_.toNat && ind (p.getD at_.toNat default) (p.getD (at_.toNat + 1) default))
theorem jmp_at {p : List Ln} {m s : Nat} (hs : s < m) (h : jmpAt p m s = true) : jmp p m = true := List.any_eq_true.2 ⟨s, by simpa using hs, h⟩
theorem jmp_none {p : List Ln} {m : Nat} (h : ∀ s, s < m → jmpAt p m s = false) : jmp p m = false := by
  cases e : jmp p m with
  | false => rfl
  | true =>
    obtain ⟨s, hs, hj⟩ := List.any_eq_true.1 e
    rw [h s (by simpa using hs)] at hj; cases hj

set_option maxRecDepth 100000 in
set_option maxHeartbeats 8000000 in
theorem Can_any (p : List Ln) (at_ : Int) (v : Value) (w : World) (hp : LinesAt w v p) (R : Ending → World → Prop) (hR : ∀ w', Grow w w' → R (.returned (.tuple #[.bool (canB p at_), .int .i64 (canE p at_)])) w') :
    Calls Try.prog 46 #[v, .int .i64 at_] w R := by
  have HP := Lib.hid hp
  have HR := Lib.hid hR
  obtain ⟨pa, pc, rfl, p1, p2, _⟩ := hp
  clear hR
  by_cases hval : valP p = 0
  rotate_left
  · have hE : canE p at_ = valP p := by unfold canE; rw [if_neg hval]
    have hB : canB p at_ = false := by unfold canB; rw [hE, decide_eq_false hval]; rfl
    have HRR := HR.out
    rw [hB, hE] at HRR
    generalize he : valP p = e at hval HRR
    have HR2 := Lib.hid HRR
    have HVE := Lib.hid he
    have t1 : (e == 0) = false := by simpa using hval
    have t2 : (e != 0) = true := by simpa using hval
    clear HRR HR hE hB he
    go_enter Try.func46, Try.ntmps46
    go_wp2_with fail
    refine validate_any p _ _ HP.out _ ?_
    intro w1 hg1
    rw [HVE.out]
    go_wp2_with fail
    exact HR2.out _ hg1
  have HVAL := Lib.hid hval
  have hp8 := (valP_ok.1 hval).1
  cases hin : inB at_ 0 (p.length - 2) with
  | false =>
    have hE : canE p at_ = 4 := by unfold canE; rw [if_pos hval, hin]; rfl
    have hB : canB p at_ = false := by unfold canB; rw [hE]; rfl
    have HRR := HR.out
    rw [hB, hE] at HRR
    have HR2 := Lib.hid HRR
    have HIN := Lib.hid hin
    clear HRR HR hE hB hin hval
    go_enter Try.func46, Try.ntmps46
    go_wp2_with fail
    refine validate_any p _ _ HP.out _ ?_
    intro w1 hg1
    rw [HVAL.out]
    go_wp2_with fail
    refine within_any _ _ _ _ _ ?_
    rw [HIN.out]
    go_wp2_with fail
    exact HR2.out _ hg1
  | true =>
  obtain ⟨i0, i1⟩ := inB_true.1 hin
  obtain ⟨m, rfl⟩ : ∃ m : Nat, at_ = m := ⟨at_.toNat, by omega⟩
  have hE : canE p m = 0 := by unfold canE; rw [if_pos hval, hin]; rfl
  have hm1 : m + 1 < p.length := by omega
  obtain ⟨⟨op, d, a, b⟩, hl⟩ : ∃ l, p[m]? = some l := ⟨_, List.getElem?_eq_getElem (by omega)⟩
  obtain ⟨⟨op', d', a', b'⟩, hl'⟩ : ∃ l, p[m + 1]? = some l := ⟨_, List.getElem?_eq_getElem hm1⟩
  have hB : canB p m = (!jmp p m && ind ⟨op, d, a, b⟩ ⟨op', d', a', b'⟩) := by
    unfold canB
    rw [hE, Int.toNat_natCast, List.getD_eq_getElem?_getD, hl, List.getD_eq_getElem?_getD, hl']; rfl
  have hok := (valP_ok.1 hval).2 _ (List.mem_of_getElem? hl)
  have hok' := (valP_ok.1 hval).2 _ (List.mem_of_getElem? hl')
  have HRR := HR.out
  rw [hB, hE] at HRR
  have HR2 := Lib.hid HRR
  have HIN := Lib.hid hin
  have HL := Lib.hid hl
  have HL' := Lib.hid hl'
  have HOK := Lib.hid hok
  have HOK' := Lib.hid hok'
  obtain ⟨pb, po, rfl, hpb, f0, f1, f2, f3⟩ := lines_at HP.out hl
  clear HRR HR hE hB hin hval hl hl' hok hok' f0 f1 f2 f3
  go_enter Try.func46, Try.ntmps46
  go_wp2_with fail
  refine validate_any p _ _ HP.out _ ?_
  intro w1 hg1
  rw [HVAL.out]
  have HG1 := Lib.hid hg1
  clear hg1
  go_wp2_with fail
  refine within_any _ _ _ _ _ ?_
  rw [HIN.out]
  go_wp2_with fail
  go_loopw [24] (fun iv wr => ∃ k : Nat, k ≤ m ∧ iv = .int .i64 k ∧ Grow w wr ∧ ∀ s, s < k → jmpAt p m s = false) (fun iv _ => m - (intOf iv).toNat)
  case atStart => exact ⟨0, Nat.zero_le _, rfl, HG1.out, fun s hs => by omega⟩
  case round =>
    obtain ⟨k, hk, rfl, hg, hno⟩ := hrel
    have HG := Lib.hid hg
    have HNO := Lib.hid hno
    clear hg hno
    by_cases hlt : k < m
    · obtain ⟨⟨xo, xd, xa, xb⟩, hx⟩ : ∃ l, p[k]? = some l := ⟨_, List.getElem?_eq_getElem (by omega)⟩
      obtain ⟨_, _, e, hpk, f0, f1, f2, f3⟩ := lines_at (HP.out.grow HG.out) hx
      cases e
      have hokx := (valP_ok.1 HVAL.out).2 _ (List.mem_of_getElem? hx)
      have hj : jmpAt p m k = ((xo == 7) && ((k : Int) + 1 + xd == (m : Int) + 1)) := by
        unfold jmpAt
        rw [List.getD_eq_getElem?_getD, hx]; rfl
      have HJ := Lib.hid hj
      have hbz : pb < wr.heap.size := hpk
      by_cases h7 : xo = 7
      · have hd : 1 ≤ xd ∧ xd ≤ 8 := by
          have h : vL xo xd xa xb = true := hokx
          rw [h7] at h
          simp [vL, inB_def] at h
          omega
        obtain ⟨hd1, hd8⟩ := hd
        subst h7
        clear hx hokx hj
        by_cases hjm : (k : Int) + 1 + xd = (m : Int) + 1
        · have t1 : ((k : Int) + 1 + xd == (m : Int) + 1) = true := by simpa using hjm
          have hjt := jmp_at hlt (by rw [HJ.out, t1]; rfl)
          have HRR := HR2.out
          rw [hjt] at HRR
          have HR3 := Lib.hid HRR
          have HJM := Lib.hid hjm
          clear HRR HR2 hjt hjm
          go_wp2_with fail
          first | exact HR3.out _ (HG.out.alloc _) | exact HR3.out _ HG.out
        · have t1 : ((k : Int) + 1 + xd == (m : Int) + 1) = false := by simpa using hjm
          have T1 := Lib.hid t1
          have HJM := Lib.hid hjm
          clear hjm
          go_wp2_with fail
          go_roundw
          case rel =>
            refine ⟨k + 1, by omega, by go_num, by first | exact HG.out.alloc _ | exact HG.out, fun s hs => ?_⟩
            by_cases hsk : s = k
            · subst hsk; rw [HJ.out, T1.out]; rfl
            · exact HNO.out s (by omega)
          case measure => simp [intOf]; omega
      · have t1 : (xo == 7) = false := by simpa using h7
        have T1 := Lib.hid t1
        clear hx hokx hj
        go_wp2_with fail
        go_roundw
        case rel =>
          refine ⟨k + 1, by omega, by go_num, by first | exact HG.out.alloc _ | exact HG.out, fun s hs => ?_⟩
          by_cases hsk : s = k
          · subst hsk; rw [HJ.out, T1.out]; rfl
          · exact HNO.out s (by omega)
        case measure => simp [intOf]; omega
    · have hjf := jmp_none (p := p) (m := m) fun s hs => HNO.out s (by omega)
      have HRR := HR2.out
      rw [hjf] at HRR
      have HR3 := Lib.hid HRR
      clear HRR HR2 hjf
      obtain ⟨_, _, e, _, f0, f1, f2, f3⟩ := lines_at (HP.out.grow HG.out) HL.out
      cases e
      obtain ⟨_, _, e, _, g0, g1, g2, g3⟩ := lines_at (HP.out.grow HG.out) HL'.out
      cases e
      have q1 : IntKind.i64.wrap ((m : Int) + 1) = (m : Int) + 1 := IntWalk.i64_in _ (by omega)
      have q2 : ((m : Int) + 1).toNat = m + 1 := by omega
      have q3 : (m : Int) + 1 < (p.length : Int) := by omega
      have q4 : (0 : Int) ≤ (m : Int) + 1 := by omega
      have q5 : (m : Int) < (p.length : Int) := by omega
      have q6 : (0 : Int) ≤ (m : Int) := by omega
      have q7 : m < p.length := by omega
      go_wp2_with fail
      go_still_tail 9, (by kernel_rfl)
      change wpList _ _ _ _ _ wr.drew
      clear f0 f1 f2 f3 g0 g1 g2 g3
      go_wp2_with fail
      refine independent_any op d a b op' d' a' b' _ ⟨(ok_rd HOK.out).1, (ok_rd HOK.out).2.1⟩ ⟨(ok_rd HOK'.out).1, (ok_rd HOK'.out).2.1⟩ _ ?_
      intro w3 hg3
      rw [Bool.not_false, Bool.true_and] at HR3
      generalize ind ⟨op, d, a, b⟩ ⟨op', d', a', b'⟩ = z at HR3 ⊢
      have HF := Lib.hid (HR3.out _ (HG.out.drew.trans hg3))
      clear hg3
      go_wp2_with fail
      exact HF.out

set_option maxRecDepth 100000 in
set_option maxHeartbeats 8000000 in
theorem rCan_any (p : List Ln) (at_ : Int) (v : Value) (w : World) (hp : LinesAt w v p) (R : Ending → World → Prop) (hR : ∀ w', Grow w w' → R (.returned (.tuple #[.bool (canB p at_), .int .i64 (canE p at_)])) w') :
    Calls Try.prog 47 #[v, .int .i64 at_] w R := by
  have HP := Lib.hid hp
  have HR := Lib.hid hR
  obtain ⟨pa, pc, rfl, p1, p2, _⟩ := hp
  clear hR
  by_cases hval : valP p = 0
  rotate_left
  · have hE : canE p at_ = valP p := by unfold canE; rw [if_neg hval]
    have hB : canB p at_ = false := by unfold canB; rw [hE, decide_eq_false hval]; rfl
    have HRR := HR.out
    rw [hB, hE] at HRR
    generalize he : valP p = e at hval HRR
    have HR2 := Lib.hid HRR
    have HVE := Lib.hid he
    have t1 : (e == 0) = false := by simpa using hval
    have t2 : (e != 0) = true := by simpa using hval
    clear HRR HR hE hB he
    go_enter Try.func47, Try.ntmps47
    go_wp2_with fail
    refine rValidate_any p _ _ HP.out _ ?_
    intro w1 hg1
    rw [HVE.out]
    go_wp2_with fail
    exact HR2.out _ hg1
  have HVAL := Lib.hid hval
  have hp8 := (valP_ok.1 hval).1
  cases hin : inB at_ 0 (p.length - 2) with
  | false =>
    have hE : canE p at_ = 4 := by unfold canE; rw [if_pos hval, hin]; rfl
    have hB : canB p at_ = false := by unfold canB; rw [hE]; rfl
    have HRR := HR.out
    rw [hB, hE] at HRR
    have HR2 := Lib.hid HRR
    have HIN := Lib.hid hin
    clear HRR HR hE hB hin hval
    go_enter Try.func47, Try.ntmps47
    go_wp2_with fail
    refine rValidate_any p _ _ HP.out _ ?_
    intro w1 hg1
    rw [HVAL.out]
    go_wp2_with fail
    refine rwithin_any _ _ _ _ _ ?_
    rw [HIN.out]
    go_wp2_with fail
    exact HR2.out _ hg1
  | true =>
  obtain ⟨i0, i1⟩ := inB_true.1 hin
  obtain ⟨m, rfl⟩ : ∃ m : Nat, at_ = m := ⟨at_.toNat, by omega⟩
  have hE : canE p m = 0 := by unfold canE; rw [if_pos hval, hin]; rfl
  have hm1 : m + 1 < p.length := by omega
  obtain ⟨⟨op, d, a, b⟩, hl⟩ : ∃ l, p[m]? = some l := ⟨_, List.getElem?_eq_getElem (by omega)⟩
  obtain ⟨⟨op', d', a', b'⟩, hl'⟩ : ∃ l, p[m + 1]? = some l := ⟨_, List.getElem?_eq_getElem hm1⟩
  have hB : canB p m = (!jmp p m && ind ⟨op, d, a, b⟩ ⟨op', d', a', b'⟩) := by
    unfold canB
    rw [hE, Int.toNat_natCast, List.getD_eq_getElem?_getD, hl, List.getD_eq_getElem?_getD, hl']; rfl
  have hok := (valP_ok.1 hval).2 _ (List.mem_of_getElem? hl)
  have hok' := (valP_ok.1 hval).2 _ (List.mem_of_getElem? hl')
  have HRR := HR.out
  rw [hB, hE] at HRR
  have HR2 := Lib.hid HRR
  have HIN := Lib.hid hin
  have HL := Lib.hid hl
  have HL' := Lib.hid hl'
  have HOK := Lib.hid hok
  have HOK' := Lib.hid hok'
  obtain ⟨pb, po, rfl, hpb, f0, f1, f2, f3⟩ := lines_at HP.out hl
  clear HRR HR hE hB hin hval hl hl' hok hok' f0 f1 f2 f3
  go_enter Try.func47, Try.ntmps47
  go_wp2_with fail
  refine rValidate_any p _ _ HP.out _ ?_
  intro w1 hg1
  rw [HVAL.out]
  have HG1 := Lib.hid hg1
  clear hg1
  go_wp2_with fail
  refine rwithin_any _ _ _ _ _ ?_
  rw [HIN.out]
  go_wp2_with fail
  go_loopw [7] (fun iv wr => ∃ k : Nat, k ≤ m ∧ iv = .int .i64 k ∧ Grow w wr ∧ ∀ s, s < k → jmpAt p m s = false) (fun iv _ => m - (intOf iv).toNat)
  case atStart => exact ⟨0, Nat.zero_le _, rfl, HG1.out, fun s hs => by omega⟩
  case round =>
    obtain ⟨k, hk, rfl, hg, hno⟩ := hrel
    have HG := Lib.hid hg
    have HNO := Lib.hid hno
    clear hg hno
    by_cases hlt : k < m
    · obtain ⟨⟨xo, xd, xa, xb⟩, hx⟩ : ∃ l, p[k]? = some l := ⟨_, List.getElem?_eq_getElem (by omega)⟩
      obtain ⟨_, _, e, hpk, f0, f1, f2, f3⟩ := lines_at (HP.out.grow HG.out) hx
      cases e
      have hokx := (valP_ok.1 HVAL.out).2 _ (List.mem_of_getElem? hx)
      have hj : jmpAt p m k = ((xo == 7) && ((k : Int) + 1 + xd == (m : Int) + 1)) := by
        unfold jmpAt
        rw [List.getD_eq_getElem?_getD, hx]; rfl
      have HJ := Lib.hid hj
      have hbz : pb < wr.heap.size := hpk
      by_cases h7 : xo = 7
      · have hd : 1 ≤ xd ∧ xd ≤ 8 := by
          have h : vL xo xd xa xb = true := hokx
          rw [h7] at h
          simp [vL, inB_def] at h
          omega
        obtain ⟨hd1, hd8⟩ := hd
        subst h7
        clear hx hokx hj
        by_cases hjm : (k : Int) + 1 + xd = (m : Int) + 1
        · have t1 : ((k : Int) + 1 + xd == (m : Int) + 1) = true := by simpa using hjm
          have hjt := jmp_at hlt (by rw [HJ.out, t1]; rfl)
          have HRR := HR2.out
          rw [hjt] at HRR
          have HR3 := Lib.hid HRR
          have HJM := Lib.hid hjm
          clear HRR HR2 hjt hjm
          go_wp2_with fail
          first | exact HR3.out _ (HG.out.alloc _) | exact HR3.out _ HG.out
        · have t1 : ((k : Int) + 1 + xd == (m : Int) + 1) = false := by simpa using hjm
          have T1 := Lib.hid t1
          have HJM := Lib.hid hjm
          clear hjm
          go_wp2_with fail
          go_roundw
          case rel =>
            refine ⟨k + 1, by omega, by go_num, by first | exact HG.out.alloc _ | exact HG.out, fun s hs => ?_⟩
            by_cases hsk : s = k
            · subst hsk; rw [HJ.out, T1.out]; rfl
            · exact HNO.out s (by omega)
          case measure => simp [intOf]; omega
      · have t1 : (xo == 7) = false := by simpa using h7
        have T1 := Lib.hid t1
        clear hx hokx hj
        go_wp2_with fail
        go_roundw
        case rel =>
          refine ⟨k + 1, by omega, by go_num, by first | exact HG.out.alloc _ | exact HG.out, fun s hs => ?_⟩
          by_cases hsk : s = k
          · subst hsk; rw [HJ.out, T1.out]; rfl
          · exact HNO.out s (by omega)
        case measure => simp [intOf]; omega
    · have hjf := jmp_none (p := p) (m := m) fun s hs => HNO.out s (by omega)
      have HRR := HR2.out
      rw [hjf] at HRR
      have HR3 := Lib.hid HRR
      clear HRR HR2 hjf
      obtain ⟨_, _, e, _, f0, f1, f2, f3⟩ := lines_at (HP.out.grow HG.out) HL.out
      cases e
      obtain ⟨_, _, e, _, g0, g1, g2, g3⟩ := lines_at (HP.out.grow HG.out) HL'.out
      cases e
      have q1 : IntKind.i64.wrap ((m : Int) + 1) = (m : Int) + 1 := IntWalk.i64_in _ (by omega)
      have q2 : ((m : Int) + 1).toNat = m + 1 := by omega
      have q3 : (m : Int) + 1 < (p.length : Int) := by omega
      have q4 : (0 : Int) ≤ (m : Int) + 1 := by omega
      have q5 : (m : Int) < (p.length : Int) := by omega
      have q6 : (0 : Int) ≤ (m : Int) := by omega
      have q7 : m < p.length := by omega
      go_wp2_with fail
      go_still_tail 9, (by kernel_rfl)
      change wpList _ _ _ _ _ wr.drew
      clear f0 f1 f2 f3 g0 g1 g2 g3
      go_wp2_with fail
      refine rindependent_any op d a b op' d' a' b' _ HOK.out HOK'.out _ ?_
      intro w3 hg3
      rw [Bool.not_false, Bool.true_and] at HR3
      generalize ind ⟨op, d, a, b⟩ ⟨op', d', a', b'⟩ = z at HR3 ⊢
      have HF := Lib.hid (HR3.out _ (HG.out.drew.trans hg3))
      clear hg3
      go_wp2_with fail
      exact HF.out

end Go.Proofs.Ytmaphlbmmemgcaa
