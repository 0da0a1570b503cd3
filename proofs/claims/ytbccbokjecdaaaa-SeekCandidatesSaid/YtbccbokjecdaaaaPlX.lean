/- The plain law of CodeExchanges: a program with two lines exchanged that are independent runs the same. No program is named. -/
import Derived.Test.YtbccbokjecdaaaaPlJ
import Derived.Test.YtbccbokjecdaaaaPlI
namespace Go.Proofs.Ytbccbokjecdaaaa
open Go.RowKit

theorem St.get_set_ne (s : St) (d r n : Int) (h : d ≠ r) (d0 : 0 ≤ d) (d3 : d ≤ 3) (r0 : 0 ≤ r) (r3 : r ≤ 3) : (s.set d n).get r = s.get r := by
  have hd : d = 0 ∨ d = 1 ∨ d = 2 ∨ d = 3 := by omega
  have hr : r = 0 ∨ r = 1 ∨ r = 2 ∨ r = 3 := by omega
  rcases hd with rfl | rfl | rfl | rfl <;> rcases hr with rfl | rfl | rfl | rfl <;> first | rfl | exact absurd rfl h
theorem St.get_set_eq (s : St) (d n : Int) (d0 : 0 ≤ d) (d3 : d ≤ 3) : (s.set d n).get d = n := by
  have hd : d = 0 ∨ d = 1 ∨ d = 2 ∨ d = 3 := by omega
  rcases hd with rfl | rfl | rfl | rfl <;> rfl
theorem St.set_comm (s : St) (d r n m : Int) (h : d ≠ r) (d0 : 0 ≤ d) (d3 : d ≤ 3) (r0 : 0 ≤ r) (r3 : r ≤ 3) : (s.set d n).set r m = (s.set r m).set d n := by
  have hd : d = 0 ∨ d = 1 ∨ d = 2 ∨ d = 3 := by omega
  have hr : r = 0 ∨ r = 1 ∨ r = 2 ∨ r = 3 := by omega
  rcases hd with rfl | rfl | rfl | rfl <;> rcases hr with rfl | rfl | rfl | rfl <;> first | rfl | exact absurd rfl h
theorem mem_two_a (a b : Int) : a ∈ two a b := by unfold two; split <;> (try split) <;> simp
theorem mem_two_b (a b : Int) : b ∈ two a b := by
  unfold two; split
  · next h => simp [h]
  · split <;> simp
/-- What a line makes depends on what it reads. -/
theorem opV_congr {op a b : Int} {s t : St} (hw : wrB op = true) (h : ∀ r ∈ rdL op a b, s.get r = t.get r) : opV op a (s.get a) (s.get b) = opV op a (t.get a) (t.get b) := by
  obtain ⟨w1, w6⟩ := inB_true.1 (show inB op 1 6 = true from hw)
  by_cases h1 : op = 1
  · subst h1; rfl
  · by_cases h2 : op = 2
    · subst h2
      have := h a (by simp [rdL])
      simpa [opV] using this
    · have e : rdL op a b = two a b := by unfold rdL; rw [if_neg h2, if_pos (by omega)]
      rw [e] at h
      rw [h a (mem_two_a a b), h b (mem_two_b a b)]
theorem stepS_of_wr {l : Ln} {i : Nat} {s : St} (h : wrB l.op = true) : stepS noF l i s = s.set l.d (cut (opV l.op l.a (s.get l.a) (s.get l.b))) := by
  unfold stepS; rw [if_pos h]; rfl
theorem stepS_of_not {l : Ln} {i : Nat} {s : St} (h : wrB l.op = false) : stepS noF l i s = s := by
  unfold stepS; rw [if_neg (by rw [h]; simp)]
theorem tch_false {l m : Ln} (h : tch l m = false) (hw : wrB l.op = true) : (wrB m.op = true → m.d ≠ l.d) ∧ l.d ∉ rdL m.op m.a m.b := by
  unfold tch at h
  rw [hw] at h
  simp at h
  exact ⟨h.1, h.2⟩
theorem rd_reg {l : Ln} (h : l.ok = true) : ∀ r ∈ rdL l.op l.a l.b, 0 ≤ r ∧ r ≤ 3 := (ok_rd (op := l.op) (d := l.d) (a := l.a) (b := l.b) h).2.2.2
theorem stepS_comm {l m : Ln} (hl : l.ok = true) (hm : m.ok = true) (hi : ind l m = true) (i j : Nat) (s : St) : stepS noF m j (stepS noF l i s) = stepS noF l i (stepS noF m j s) := by
  unfold ind at hi
  simp at hi
  obtain ⟨⟨_, t1⟩, t2⟩ := hi
  cases hwl : wrB l.op with
  | false => rw [stepS_of_not hwl, stepS_of_not hwl]
  | true =>
    cases hwm : wrB m.op with
    | false => rw [stepS_of_not hwm, stepS_of_not hwm]
    | true =>
      obtain ⟨u1, u2⟩ := tch_false t1 hwl
      obtain ⟨v1, v2⟩ := tch_false t2 hwm
      obtain ⟨l0, l3⟩ := wr_reg hl hwl
      obtain ⟨m0, m3⟩ := wr_reg hm hwm
      rw [stepS_of_wr hwl, stepS_of_wr hwm, stepS_of_wr hwm, stepS_of_wr hwl]
      have hne : l.d ≠ m.d := fun e => u1 hwm e.symm
      rw [St.set_comm s l.d m.d _ _ hne l0 l3 m0 m3]
      congr 2
      · congr 1
        refine opV_congr hwm fun r hr => ?_
        obtain ⟨r0, r3⟩ := rd_reg hm r hr
        exact St.get_set_ne _ _ _ _ (fun e => u2 (e ▸ hr)) l0 l3 r0 r3
      · refine (opV_congr hwl fun r hr => ?_).symm
        obtain ⟨r0, r3⟩ := rd_reg hl r hr
        exact St.get_set_ne _ _ _ _ (fun e => v2 (e ▸ hr)) m0 m3 r0 r3

/-- A program with two lines exchanged. -/
def exch (p : List Ln) (k : Nat) : List Ln := (p.set k (p.getD (k + 1) default)).set (k + 1) (p.getD k default)
theorem exch_length (p : List Ln) (k : Nat) : (exch p k).length = p.length := by simp [exch]
theorem exch_at {p : List Ln} {k : Nat} {m : Ln} (hm : p[k + 1]? = some m) : (exch p k)[k]? = some m := by
  have h1 : k + 1 < p.length := (List.getElem?_eq_some_iff.1 hm).1
  unfold exch
  rw [List.getElem?_set_ne (by omega), List.getElem?_set_self (by omega), List.getD_eq_getElem?_getD, hm]; rfl
theorem exch_at1 {p : List Ln} {k : Nat} {l m : Ln} (hl : p[k]? = some l) (hm : p[k + 1]? = some m) : (exch p k)[k + 1]? = some l := by
  have h1 : k + 1 < p.length := (List.getElem?_eq_some_iff.1 hm).1
  unfold exch
  rw [List.getElem?_set_self (by simpa using h1), List.getD_eq_getElem?_getD, hl]; rfl
theorem exch_ne {p : List Ln} {k i : Nat} (h : i ≠ k) (h1 : i ≠ k + 1) : (exch p k)[i]? = p[i]? := by
  unfold exch
  rw [List.getElem?_set_ne (by omega), List.getElem?_set_ne (by omega)]
theorem endS_exch {p : List Ln} {k : Nat} {l m : Ln} (hl : p[k]? = some l) (hm : p[k + 1]? = some m) (okl : l.ok = true) (okm : m.ok = true) (hi : ind l m = true)
    (hj : ∀ i x, p[i]? = some x → i < k → x.op = 7 → i + 1 + x.d.toNat ≠ k + 1) : ∀ (n i : Nat) (s : St), p.length ≤ i + n → i ≠ k + 1 → endS (exch p k) i s = endS p i s
  | 0, i, s, h, _ => by rw [endS_end (by rw [exch_length]; omega), endS_end (by omega)]
  | n + 1, i, s, h, hne => by
    by_cases hik : i = k
    · subst hik
      have n7 : l.op ≠ 7 ∧ m.op ≠ 7 := by unfold ind at hi; simp at hi; exact hi.1.1
      have q : ∀ (x : Ln) (j : Nat) (t : St), x.op ≠ 7 → nextI x j t = j + 1 := fun x j t h7 => by unfold nextI; rw [if_neg (fun e => h7 e.1)]
      rw [endS_step hl, q _ _ _ n7.1, endS_step hm, q _ _ _ n7.2, endS_step (exch_at hm), q _ _ _ n7.2, endS_step (exch_at1 hl hm), q _ _ _ n7.1, stepS_noF l (i + 1) i, ← stepS_comm okl okm hi i i]
      rw [stepS_noF m (i + 1) i]
      exact endS_exch hl hm okl okm hi hj n _ _ (by omega) (by omega)
    · cases hx : p[i]? with
      | none =>
        have := List.getElem?_eq_none_iff.1 hx
        rw [endS_end (by rw [exch_length]; omega), endS_end this]
      | some x =>
        have hx2 : (exch p k)[i]? = some x := by rw [exch_ne hik hne]; exact hx
        have := nextI_gt x i s
        rw [endS_step hx, endS_step hx2]
        refine endS_exch hl hm okl okm hi hj n _ _ (by omega) ?_
        by_cases hlt : i < k
        · unfold nextI
          split
          · next h7 => exact hj i x hx hlt h7.1
          · omega
        · omega
theorem runM_exch {p : List Ln} {k : Nat} {l m : Ln} (hl : p[k]? = some l) (hm : p[k + 1]? = some m) (okl : l.ok = true) (okm : m.ok = true) (hi : ind l m = true)
    (hj : ∀ i x, p[i]? = some x → i < k → x.op = 7 → i + 1 + x.d.toNat ≠ k + 1) (s : List Int) : runM (exch p k) s = runM p s := by
  rw [runM_eq, runM_eq, endS_exch hl hm okl okm hi hj _ 0 _ (Nat.le_add_left _ _) (by omega)]
theorem mem_exch {p : List Ln} {k : Nat} {l m : Ln} (hl : p[k]? = some l) (hm : p[k + 1]? = some m) {x : Ln} (h : x ∈ exch p k) : x ∈ p := by
  obtain ⟨i, hi⟩ := List.mem_iff_getElem?.1 h
  by_cases h1 : i = k
  · subst h1; rw [exch_at hm] at hi; cases hi; exact List.mem_of_getElem? hm
  · by_cases h2 : i = k + 1
    · subst h2; rw [exch_at1 hl hm] at hi; cases hi; exact List.mem_of_getElem? hl
    · rw [exch_ne h1 h2] at hi; exact List.mem_of_getElem? hi
theorem valP_exch {p : List Ln} {k : Nat} {l m : Ln} (hl : p[k]? = some l) (hm : p[k + 1]? = some m) (h : valP p = 0) : valP (exch p k) = 0 := by
  obtain ⟨h1, h2⟩ := valP_ok.1 h
  exact valP_ok.2 ⟨by rw [exch_length]; exact h1, fun x hx => h2 x (mem_exch hl hm hx)⟩
end Go.Proofs.Ytbccbokjecdaaaa
