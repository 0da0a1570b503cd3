/-


-/
import Derived.Test.YtgjppekjkofdiaaGreatDoorK40
import Derived.RegionTactic
import Derived.Deep.RegionHeld3
import Derived.Test.YtgjppekjkofdiaaGreatDoorK39
import Derived.Test.YtgjppekjkofdiaaGreatDoorK26
import Derived.BigQuiet
namespace Go.Proofs.YtgjppekjkofdiaaGreatDoor
open Go.RowKit

theorem tb_extract (l : List UInt8) (i j : Nat) : (tb l).extract i j = tb ((l.take j).drop i) := by
  apply tx_eq
  rw [tb_data]
  simp [tb, ByteArray.data_extract, List.drop_take]
end Go.Proofs.YtgjppekjkofdiaaGreatDoor

namespace Go.Proofs.YtgjppekjkofdiaaGreatDoor
open Go.RowKit

def difL : List (List UInt8) → List (List UInt8) → Option Nat
  | x :: xs, y :: ys => if x = y then (difL xs ys).map (· + 1) else some 0
  | _, _ => none
theorem difL_some : ∀ {l m : List (List UInt8)} {i : Nat} {x y : List UInt8}, l[i]? = some x → m[i]? = some y → x ≠ y → l.take i = m.take i → difL l m = some i
  | [], _, _, _, _, h, _, _, _ => by simp at h
  | _ :: _, [], _, _, _, _, h, _, _ => by simp at h
  | a :: l, b :: m, 0, x, y, h1, h2, h3, _ => by
    simp at h1 h2; subst h1 h2
    unfold difL; rw [if_neg h3]
  | a :: l, b :: m, i + 1, x, y, h1, h2, h3, h4 => by
    rw [List.take_succ_cons, List.take_succ_cons, List.cons.injEq] at h4
    unfold difL
    rw [if_pos h4.1, difL_some (by simpa using h1) (by simpa using h2) h3 h4.2]; rfl
theorem difL_none : ∀ {l m : List (List UInt8)}, l.take (min l.length m.length) = m.take (min l.length m.length) → difL l m = none
  | [], m, _ => by unfold difL; first | rfl | (split <;> rfl)
  | _ :: _, [], _ => by unfold difL; rfl
  | a :: l, b :: m, h => by
    rw [List.length_cons, List.length_cons, Nat.add_min_add_right, List.take_succ_cons, List.take_succ_cons, List.cons.injEq] at h
    unfold difL
    rw [if_pos h.1, difL_none h.2]; rfl
def mrgB (a b : ByteArray) : ByteArray × Int × Int :=
  let p := Bk.readL 80 0 a.data.toList
  let q := Bk.readL 80 0 b.data.toList
  if p.2 ≠ [] ∨ q.2 ≠ [] then (⟨#[]⟩, 0, 10)
  else match difL p.1 q.1 with
    | some i => (⟨#[]⟩, (i : Nat), 7)
    | none => if p.1.length < q.1.length then (b, (q.1.length : Nat), 0) else (a, (p.1.length : Nat), 0)
theorem read_len80 (n : Nat) : ∀ (s : Int) (b : List UInt8), (Bk.readL n s b).1.length ≤ n := by
  induction n with
  | zero => intro s b; simp [Bk.readL]
  | succ n ih =>
    intro s b
    unfold Bk.readL
    split
    · simp
    · next o rest _ => simp; exact ih _ _
theorem tb_nil : (tb []).toList = [] := by rw [Lib.toList_data, tb_data]
theorem tb_nel {x : List UInt8} (h : x ≠ []) : (tb x).toList ≠ [] := by rw [Lib.toList_data, tb_data]; exact h
theorem map_tb_at {l : List (List UInt8)} {i : Nat} (h : i < l.length) : (l.map tb)[i]? = some (tb l[i]) := by rw [List.getElem?_map, List.getElem?_eq_getElem h]; rfl
set_option maxRecDepth 100000 in
set_option maxHeartbeats 8000000 in
theorem Merge_any (a b : ByteArray) (ha : a.size ≤ 1000000000) (hb : b.size ≤ 1000000000) (w : World) (hg : Glob w) (R : Ending → World → Prop)
    (hR : ∀ w', Grow w w' → R (.returned (.tuple #[.string (mrgB a b).1, .int .i64 (mrgB a b).2.1, .int .i64 (mrgB a b).2.2])) w') :
    Calls Tryz.prog 30 #[.string a, .string b] w R := by
  obtain ⟨P, hP⟩ : ∃ P, Bk.readL 80 0 a.data.toList = P := ⟨_, rfl⟩
  obtain ⟨Q, hQ⟩ : ∃ Q, Bk.readL 80 0 b.data.toList = Q := ⟨_, rfl⟩
  have hp80 : P.1.length ≤ 80 := by rw [← hP]; exact read_len80 _ _ _
  have hq80 : Q.1.length ≤ 80 := by rw [← hQ]; exact read_len80 _ _ _
  have hm : mrgB a b = (if P.2 ≠ [] ∨ Q.2 ≠ [] then (⟨#[]⟩, 0, 10) else match difL P.1 Q.1 with
    | some i => (⟨#[]⟩, (i : Nat), 7)
    | none => if P.1.length < Q.1.length then (b, (Q.1.length : Nat), 0) else (a, (P.1.length : Nat), 0) : ByteArray × Int × Int) := by unfold mrgB; rw [hP, hQ]
  rw [hm] at hR
  obtain ⟨p, r⟩ := P
  obtain ⟨q, s⟩ := Q
  dsimp only at hR hp80 hq80
  have HR := Lib.hid hR
  have HG := Lib.hid hg
  have HP := Lib.hid hP
  have HQ := Lib.hid hQ
  clear hR hg hP hQ hm
  go_enter Tryz.func30, Tryz.ntmps30
  go_wp2_with fail
  refine Read_any a ha _ HG.out _ ?_
  intro w1 pv hg1 hpo
  rw [HP.out] at hpo ⊢
  dsimp only at hpo ⊢
  obtain ⟨pa, pc, rfl, p1, p2, jk1⟩ := slc_of_owns encTx_len hpo
  have HPT := Lib.hid (slc_of_owns encTx_len hpo)
  have HG1 := Lib.hid hg1
  rw [List.length_map] at p1 HPT ⊢
  clear jk1 hpo hg1
  go_wp2_with fail
  refine Read_any b hb _ (HG.out.grow HG1.out) _ ?_
  intro w2 qv hg2 hqo
  rw [HQ.out] at hqo ⊢
  dsimp only at hqo ⊢
  obtain ⟨qa, qc, rfl, q1, q2, jk2⟩ := slc_of_owns encTx_len hqo
  have HQT := Lib.hid (slc_of_owns encTx_len hqo)
  have HPT2 := Lib.hid (HPT.out.grow hg2)
  have HG2 := Lib.hid (HG1.out.trans hg2)
  rw [List.length_map] at q1 HQT ⊢
  clear jk2 hqo hg2 HPT
  by_cases hr : r = []
  rotate_left
  · have hf := HR.out w2 HG2.out
    rw [if_pos (.inl hr)] at hf
    have HF := Lib.hid hf
    have hrb := tb_nel hr
    have hrc : ((tb r).toList == []) = false := beq_eq_false_iff_ne.2 hrb
    clear hf
    go_wp2_with fail
    all_goals first | exact HF.out | exact bodyPost_ret (by simp [results, Tryz.results30, go_sem]) rfl HF.out
  by_cases hs : s = []
  rotate_left
  · have hf := HR.out w2 HG2.out
    rw [if_pos (.inr hs)] at hf
    have HF := Lib.hid hf
    have hsb := tb_nel hs
    have hsc : ((tb s).toList == []) = false := beq_eq_false_iff_ne.2 hsb
    subst hr
    have hrb := tb_nil
    clear hf
    go_wp2_with fail
    all_goals first | exact HF.out | exact bodyPost_ret (by simp [results, Tryz.results30, go_sem]) rfl HF.out
  subst hr hs
  rw [if_neg (by simp)] at HR
  have hrb := tb_nil
  go_wp2_with fail
  go_loopw [33] (fun s3 wr => ∃ k : Nat, k ≤ min p.length q.length ∧ s3 = .int .i64 k ∧ Grow w2 wr ∧ p.take k = q.take k) (fun s3 _ => min p.length q.length - (intOf s3).toNat)
  case atStart => exact ⟨0, Nat.zero_le _, rfl, Grow.refl _, by simp⟩
  case round =>
    obtain ⟨k, hk, rfl, hg, htk⟩ := hrel
    have HGR := Lib.hid hg
    have HTK := Lib.hid htk
    clear hg htk
    by_cases hlt : k < min p.length q.length
    · have hkp : k < p.length := by omega
      have hkq : k < q.length := by omega
      have hkpz : (k : Int) < (p.length : Int) := by omega
      have hkqz : (k : Int) < (q.length : Int) := by omega
      have hkm : (k : Int) < min (p.length : Int) (q.length : Int) := by omega
      obtain ⟨pb, po, rfl, pl, y0⟩ := texts_at (HPT2.out.grow HGR.out) (map_tb_at hkp)
      have hqat := texts_at (HQT.out.grow HGR.out) (map_tb_at hkq)
      obtain ⟨qb, qo, rfl, ql, y1⟩ := hqat
      obtain ⟨x, hx⟩ : ∃ x, p[k] = x := ⟨_, rfl⟩
      obtain ⟨y, hy⟩ : ∃ y, q[k] = y := ⟨_, rfl⟩
      have hpx : p[k]? = some x := by rw [List.getElem?_eq_getElem hkp, hx]
      have hqy : q[k]? = some y := by rw [List.getElem?_eq_getElem hkq, hy]
      have HPX := Lib.hid hpx
      have HQY := Lib.hid hqy
      rw [hx] at y0
      rw [hy] at y1
      clear hpx hqy hx hy
      by_cases hxy : x = y
      · subst hxy
        go_wp2_with (go_quiet (fail))
        go_roundw
        case rel =>
          exact ⟨k + 1, by omega, by go_num, HGR.out.drewN _, by rw [List.take_add_one, List.take_add_one, HPX.out, HQY.out, HTK.out]⟩
        case measure => simp [intOf]; omega
      · have t1 := tx_ne (x := tb x) (y := tb y) (fun e => hxy (tb_inj e))
        have hd := difL_some HPX.out HQY.out hxy HTK.out
        have hf := fun n => HR.out _ (HG2.out.trans (HGR.out.drewN n))
        rw [hd] at hf
        have HF := Lib.hid hf
        clear hf hd
        go_wp2_with (go_quiet (fail))
        first | exact HF.out _ | exact bodyPost_ret (by simp [results, Tryz.results30, go_sem]) rfl (HF.out _)
    · obtain rfl : k = min p.length q.length := by omega
      have hd := difL_none HTK.out
      have hf := HR.out wr (HG2.out.trans HGR.out)
      rw [hd] at hf
      dsimp only at hf
      clear hd
      by_cases hpq : p.length < q.length
      · rw [if_pos hpq] at hf
        have HF := Lib.hid hf
        have hz : decide ((q.length : Int) > (p.length : Int)) = true := by rw [decide_eq_true_eq]; omega
        have e1 : ((min p.length q.length : Nat) : Int) = (p.length : Int) := by omega
        have e2 : min (p.length : Int) (q.length : Int) = (p.length : Int) := by omega
        clear hf hlt hk
        rw [e1]
        go_wp2_with fail
        all_goals first | exact HF.out | exact bodyPost_ret (by simp [results, Tryz.results30, go_sem]) rfl HF.out
      · rw [if_neg hpq] at hf
        have HF := Lib.hid hf
        have hz : decide ((q.length : Int) > (p.length : Int)) = false := by rw [decide_eq_false_iff_not]; omega
        have e1 : ((min p.length q.length : Nat) : Int) = (q.length : Int) := by omega
        have e2 : min (p.length : Int) (q.length : Int) = (q.length : Int) := by omega
        clear hf hlt hk
        rw [e1]
        go_wp2_with fail
        all_goals first | exact HF.out | exact bodyPost_ret (by simp [results, Tryz.results30, go_sem]) rfl HF.out

end Go.Proofs.YtgjppekjkofdiaaGreatDoor
