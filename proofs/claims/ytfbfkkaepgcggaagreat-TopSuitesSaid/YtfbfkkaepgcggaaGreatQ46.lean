/-
The walks of mutants and Mutants.
Sets of tests as numbers: the digits in twos, and the smallest set that kills as much as all: plain laws.
What is enough to kill mutants is the smallest cover of the table of kills, plainly. No program is named.
The walks of the library's Compare and ContainsFunc on numbers, of the document's Before, and of the test of one set.
-/
import Derived.Test.YtfbfkkaepgcggaaGreatQ45
import Derived.Test.YtfbfkkaepgcggaaGreatQ32
import Derived.Test.YtfbfkkaepgcggaaGreatQ44
import Derived.Maps.AppendAt
import Derived.Test.YtfbfkkaepgcggaaGreatQ24
import Derived.Test.YtfbfkkaepgcggaaGreatQ02
namespace Go.Proofs.YtfbfkkaepgcggaaGreat
open Go.RowKit

/-- append of one element, and where the new list lies. -/
theorem wpList_appAt {P : Program} {α : Type} (w : World) {ops : Array Oper} {rest : List Oper} {o : Oper} {a : Act} {Q : Exit → Act → World → Prop} (hgd : o.guard = none) (s x : Operand) (t : TypeId)
    (ho : o.op = .call { callee := .builtin .append, args := #[s, x], argTypes := #[t, t] })
    (base : Nat) (e : TypeId) {k bytes : Nat} {z : Value} (ht : P.underlying t = some (.slice e)) (info : (P.info? e).map (fun i => (i.zero, i.size, i.bytes)) = some (some z, k, bytes))
    (hzs : z.cells.size = k) (hk : 0 < k) (hby : bytes ≤ 1000)
    (enc : α → List Value) (hen : ∀ x, (enc x).length = k) (h1 : ∀ x, ∀ u ∈ enc x, u.oneCell' = true)
    (v : Value) (xs : List α) (hs : a.eval s = v) (hown : w.ownsRow base e k v xs.length (xs.flatMap enc)) (ad : Addr) (y : α) (c : Nat) (hx : a.eval x = .slice (some ad) 1 c)
    (hnews : ∀ j u, (enc y)[j]? = some u → w.cell? (ad.add j) = some u) (hn : xs.length < 100000000000) (hbase : base ≤ w.heap.size)
    (h : ∀ v' w', w'.ownsRow base e k v' (xs ++ [y]).length ((xs ++ [y]).flatMap enc) → w.grownBy w' v.ownBlock → (v'.ownBlock = v.ownBlock ∨ v'.ownBlock = some w.heap.size) → wpList P ops Q rest (a.put o.dst v') w') : wpList P ops Q (o :: rest) a w := by
  obtain ⟨i, hi, hz0, hz1, hz2⟩ := info_parts info
  refine wpList_append_own_at w hgd s x t ho base e i z k bytes ht hi hz0 hz1 hz2 hzs hk v xs.length (xs.flatMap enc) hs hown ad 1 c (enc y) hx (by rw [hen]; omega) hnews (h1 y) (by unfold maxLen; omega) ?_ hbase ?_
  · exact Nat.le_trans (Nat.mul_le_mul (show xs.length + 1 ≤ 100000000000 by omega) hby) (by decide)
  · intro v' w' a1 a2 _ a4
    refine h v' w' ?_ a2 a4
    rw [List.length_append, List.flatMap_append]
    simpa using a1
theorem slc_kept {α : Type} {k : Nat} {enc : α → List Value} {w w' : World} {a : Option Addr} {n c : Nat} {xs : List α} {row : Option Nat} (h : SlcAt k enc w (.slice a n c) xs) (hg : w.grownBy w' row) (hne : ∀ b o s, a = some ⟨b, o, s⟩ → row ≠ some b) : SlcAt k enc w' (.slice a n c) xs := by
  obtain ⟨_, _, e, h1, h2, h3⟩ := h
  cases e
  refine ⟨a, c, rfl, h1, h2, h3.imp id ?_⟩
  rintro ⟨b, o, rfl, hb, hc⟩
  exact ⟨b, o, rfl, Nat.lt_of_lt_of_le hb hg.size, fun j x hx i u hu => hg.cell (hc j x hx i u hu) (fun e => hne b o none rfl e.symm)⟩
set_option maxRecDepth 100000 in
set_option maxHeartbeats 16000000 in
theorem mutants_any (p : List Ln) (pv : Value) (w : World) (hp : LinesAt w pv p) (hval : valP p = 0) (R : Ending → World → Prop)
    (hR : ∀ w' v, Grow w w' → OwnE w.heap.size w' v (mutM p p.length) → R (.returned v) w') :
    Calls Tryz.prog 43 #[pv] w R := by
  have HP := Lib.hid hp
  have HR := Lib.hid hR
  have HV := Lib.hid hval
  have hp8 := (valP_ok.1 hval).1
  have HALL := Lib.hid (valP_ok.1 hval).2
  obtain ⟨pa, pc, rfl, p1, p2, _⟩ := hp
  clear hR hval
  go_enter Tryz.func43, Tryz.ntmps43
  go_wp2_with fail
  go_loopw [3, 4, 5, 7, 10, 18] (fun out _ _ _ i _ wr => ∃ (k : Nat) (ov : Value), k ≤ p.length ∧ i = .int .i64 k ∧ ov = out ∧ Grow w wr ∧ wr.ownsRow w.heap.size 46 5 ov (mutM p k).length ((mutM p k).flatMap encE)) (fun _ _ _ _ i _ _ => p.length - (intOf i).toNat)
  case atStart => exact ⟨0, _, Nat.zero_le _, rfl, rfl, Grow.refl _, World.ownsRow_nil _ _ _ _⟩
  case round =>
    obtain ⟨k, out, hk, rfl, rfl, hg, how⟩ := hrel
    have HG := Lib.hid hg
    have HOW := Lib.hid how
    have hzw := hg.sz
    clear hg how
    by_cases hlt : k < p.length
    · obtain ⟨⟨op, d, a, b⟩, hx⟩ : ∃ x, p[k]? = some x := ⟨_, List.getElem?_eq_getElem hlt⟩
      obtain ⟨gp, o, rfl, hgp, y0, y1, y2, y3⟩ := lines_at (HP.out.grow HG.out) hx
      have hlt2 : (k : Int) < (p.length : Int) := by omega
      have hla : lineAt p (k : Int) = ⟨op, d, a, b⟩ := by unfold lineAt; rw [show ((k : Int)).toNat = k by omega, hx]; rfl
      have HOKL := Lib.hid (show vL op d a b = true from HALL.out _ (List.mem_of_getElem? hx))
      have hlen := mutM_len HV.out k hk
      have htl := tmpl_len (l := ⟨op, d, a, b⟩) HOKL.out
      have hsc := mutM_succ p k
      rw [hla] at hsc
      obtain ⟨L, hL⟩ : ∃ L, tmpl ⟨op, d, a, b⟩ = L := ⟨_, rfl⟩
      rw [hL] at hsc htl
      have HSC := Lib.hid hsc
      have HL := Lib.hid hL
      clear hx hla hsc hL
      go_wp2_with fail
      have hgb := (Grow.refl wr).alloc (.cells #[.int .i64 op, .int .i64 d, .int .i64 a, .int .i64 b] 44)
      have hsW : (wr.alloc (.cells #[.int .i64 op, .int .i64 d, .int .i64 a, .int .i64 b] 44)).heap.size = wr.heap.size + 1 := by simp
      generalize wr.alloc (.cells #[.int .i64 op, .int .i64 d, .int .i64 a, .int .i64 b] 44) = W at hgb hsW ⊢
      have hszW := hgb.sz
      refine templatesN_any op d a b _ HOKL.out _ ?_
      intro w1 v1 hg1 hv1
      rw [HL.out] at hv1
      obtain ⟨hv1, hv1n⟩ := hv1
      have HV1 := Lib.hid hv1
      obtain ⟨a1, c1, rfl, q1, q2, _⟩ := hv1
      have HNE := Lib.hid (show ∀ b o s, a1 = some ⟨b, o, s⟩ → out.ownBlock ≠ some b from fun b o s h he => by have h1 := hv1n b o s _ _ (by rw [h]); have h2 := (HOW.out.lt b he).2; omega)
      have HG1 := Lib.hid (HG.out.trans (hgb.trans hg1))
      have HO1 := Lib.hid ((hgb.trans hg1).owns HOW.out)
      have hz1 := (HG.out.trans (hgb.trans hg1)).sz
      clear hgb hg1 y0 y1 y2 y3 HOW
      go_wp2_with fail
      obtain ⟨wo, hwo⟩ : ∃ z : World, z = wr := ⟨_, rfl⟩
      clear hwo
      go_loopw [3, 7, 18] (fun out _ i wr => ∃ j : Nat, j ≤ L.length ∧ i = .int .i64 j ∧ Grow w wr ∧ LinesAt wr (.slice a1 L.length c1) L ∧ (∀ b o s, a1 = some ⟨b, o, s⟩ → out.ownBlock ≠ some b) ∧ wr.ownsRow w.heap.size 46 5 out (mutM p k ++ (L.take j).map (Ed.mk k)).length ((mutM p k ++ (L.take j).map (Ed.mk k)).flatMap encE)) (fun _ _ i _ => L.length - (intOf i).toNat)
      case atStart => exact ⟨0, Nat.zero_le _, rfl, HG1.out, HV1.out, HNE.out, by simpa using HO1.out⟩
      case round =>
        obtain ⟨j, hj, rfl, hgw, hlw, hnw, how⟩ := hrel
        have HGW := Lib.hid hgw
        have HLW := Lib.hid hlw
        have HNW := Lib.hid hnw
        have HOW := Lib.hid how
        have hzw2 := hgw.sz
        clear hgw hlw hnw how HO1 HV1 HNE
        by_cases hjl : j < L.length
        · obtain ⟨⟨o2, d2, a2, b2⟩, hx⟩ : ∃ x, L[j]? = some x := ⟨_, List.getElem?_eq_getElem hjl⟩
          obtain ⟨gA, oA, rfl, hgA, f0, f1, f2, f3⟩ := lines_at HLW.out hx
          have hjl2 : (j : Int) < (L.length : Int) := by omega
          have HTK := Lib.hid (show mutM p k ++ (L.take (j + 1)).map (Ed.mk k) = (mutM p k ++ (L.take j).map (Ed.mk k)) ++ [⟨(k : Int), ⟨o2, d2, a2, b2⟩⟩] by rw [List.take_add_one, hx, List.map_append, List.append_assoc]; rfl)
          have HLB := Lib.hid (show (mutM p k ++ (L.take j).map (Ed.mk k)).length < 100000000000 by rw [List.length_append, List.length_map, List.length_take]; omega)
          have hgb1 := (Grow.refl wr).alloc (.cells #[.int .i64 o2, .int .i64 d2, .int .i64 a2, .int .i64 b2] 44)
          have hgb2 := hgb1.alloc (.cells #[.int .i64 (k : Int), .int .i64 o2, .int .i64 d2, .int .i64 a2, .int .i64 b2] 46)
          clear hx
          go_wp2_with (at_builtin; refine wpList_appAt _ rfl (.tmp 22) (.tmp 26) 39 rfl w.heap.size 46 Tryz.underlying39 info_ed rfl (by decide) (by decide) encE encE_len encE_one _ (mutM p k ++ (L.take j).map (Ed.mk k)) rfl (hgb2.owns HOW.out) _ (⟨(k : Int), ⟨o2, d2, a2, b2⟩⟩ : Ed) 1 rfl (newsG _ _ (by simp) (encE ⟨(k : Int), ⟨o2, d2, a2, b2⟩⟩) _) HLB.out (by simp; omega) ?_; intro out2 w4 hown2 hgr2 hat2)
          have HG4 := Lib.hid (show Grow w w4 from grown_below HOW.out hgr2 (Nat.le_refl _) (by simp; omega) (HGW.out.trans hgb2))
          have HL4 := Lib.hid (slc_kept (HLW.out.grow hgb2) hgr2 HNW.out)
          have HN4 := Lib.hid (show ∀ b o s, (some (⟨gA, oA, none⟩ : Addr)) = some ⟨b, o, s⟩ → out2.ownBlock ≠ some b from fun b o s h he => by
            rcases hat2 with h2 | h2
            · rw [h2] at he; exact HNW.out b o s h he
            · rw [h2] at he
              cases h
              have := Option.some.inj he
              simp at this
              omega)
          have HO2 := Lib.hid hown2
          clear hown2 hgr2 hat2 f0 f1 f2 f3
          go_roundw
          case rel => exact ⟨j + 1, by omega, by go_num, HG4.out, HL4.out, HN4.out, by rw [HTK.out]; exact HO2.out⟩
          case measure => simp [intOf]; omega
        · have hjn : j = L.length := by omega
          have HO2 := HOW.out
          rw [hjn, List.take_length, ← HSC.out] at HO2
          have HO3 := Lib.hid HO2
          clear HO2 hjn
          go_wp2_with fail
          go_roundw
          case rel => exact ⟨k + 1, _, by omega, by go_num, rfl, HGW.out, HO3.out⟩
          case measure => simp [intOf]; omega
    · have hkn : k = p.length := by omega
      have HO2 := HOW.out
      rw [hkn] at HO2
      have hmb := mutM_len HV.out p.length (Nat.le_refl _)
      have HOE := Lib.hid (OwnE.of_own HO2)
      clear HO2 hkn
      go_wp2_with fail
      refine orderedE_any (mutM p p.length) (mutM_asc p _) w.heap.size _ _ HOE.out (by omega) _ ?_
      intro w5 hb5 ho5
      have HF := Lib.hid (HR.out w5 _ (Below.trans HG.out hb5) ho5)
      clear hb5 ho5
      go_wp2_with fail
      exact HF.out

set_option maxHeartbeats 4000000 in
theorem Mutants_any (p : List Ln) (pv : Value) (w : World) (hp : LinesAt w pv p) (R : Ending → World → Prop)
    (hR : ∀ w' v, Grow w w' → EditsAt w' v (mutO p) → R (.returned (.tuple #[v, .int .i64 (valP p)])) w') :
    Calls Tryz.prog 17 #[pv] w R := by
  have HP := Lib.hid hp
  rw [show mutO p = ifOK (valP p) (mutM p p.length) from rfl] at hR
  have HR := Lib.hid hR
  obtain ⟨e, he⟩ : ∃ e, valP p = e := ⟨_, rfl⟩
  rw [he] at HR
  have HE := Lib.hid he
  obtain ⟨pa, pc, rfl, _⟩ := hp
  clear hR he
  by_cases h0 : e = 0
  · subst h0
    rw [ifOK_ok] at HR
    go_enter Tryz.func17, Tryz.ntmps17
    go_wp2_with fail
    refine validate_any p _ _ HP.out _ ?_
    intro w1 hg1
    rw [HE.out]
    have HG1 := Lib.hid hg1
    clear hg1
    go_wp2_with fail
    refine mutants_any p _ _ (HP.out.grow HG1.out) HE.out _ ?_
    intro w2 v2 hg2 hv2
    have HF := Lib.hid (HR.out w2 v2 (HG1.out.trans hg2) hv2.edits)
    clear hg2 hv2
    go_wp2_with fail
    exact HF.out
  · rw [ifOK_err h0] at HR
    have t1 : (e != 0) = true := by simpa using h0
    clear h0
    go_enter Tryz.func17, Tryz.ntmps17
    go_wp2_with fail
    refine validate_any p _ _ HP.out _ ?_
    intro w1 hg1
    rw [HE.out]
    have HF := Lib.hid (HR.out w1 (.slice none 0 0) hg1 (SlcAt.nil _ _ _))
    clear hg1
    go_wp2_with fail
    exact HF.out
end Go.Proofs.YtfbfkkaepgcggaaGreat

namespace Go.Proofs.YtfbfkkaepgcggaaGreat
open Go.RowKit

theorem ofInt_nat (a : Nat) : BitVec.ofInt IntKind.i64.bits (a : Int) = BitVec.ofNat 64 a := BitVec.ofInt_natCast 64 a
theorem bits_and (a b : Nat) (ha : a < 9223372036854775808) (hb : b < 9223372036854775808) : bits .and .i64 (a : Int) (b : Int) = ((a &&& b : Nat) : Int) := by
  unfold bits
  rw [ofInt_nat, ofInt_nat]
  show IntKind.i64.wrap (((BitVec.ofNat 64 a &&& BitVec.ofNat 64 b).toNat : Nat) : Int) = _
  rw [BitVec.toNat_and, BitVec.toNat_ofNat, BitVec.toNat_ofNat, Nat.mod_eq_of_lt (by omega), Nat.mod_eq_of_lt (by omega)]
  have : a &&& b ≤ a := Nat.and_le_left
  exact IntWalk.i64_in _ (by omega)
theorem bits_or (a b : Nat) (ha : a < 256) (hb : b < 256) : bits .or .i64 (a : Int) (b : Int) = ((a ||| b : Nat) : Int) := by
  unfold bits
  rw [ofInt_nat, ofInt_nat]
  show IntKind.i64.wrap (((BitVec.ofNat 64 a ||| BitVec.ofNat 64 b).toNat : Nat) : Int) = _
  rw [BitVec.toNat_or, BitVec.toNat_ofNat, BitVec.toNat_ofNat, Nat.mod_eq_of_lt (by omega), Nat.mod_eq_of_lt (by omega)]
  have : a ||| b < 2 ^ 8 := Nat.or_lt_two_pow (by omega) (by omega)
  exact IntWalk.i64_in _ (by omega)
theorem bits_digit (s k : Nat) (hs : s < 256) : bits .and .i64 ((s : Int) / 2 ^ k) 1 = if s.testBit k then 1 else 0 := by
  have e1 : (s : Int) / 2 ^ k = ((s / 2 ^ k : Nat) : Int) := by rw [Int.natCast_ediv, Int.natCast_pow]; rfl
  have e2 : (1 : Int) = ((1 : Nat) : Int) := rfl
  have hle : s / 2 ^ k ≤ s := Nat.div_le_self _ _
  rw [e1]
  conv => lhs; rw [e2]
  rw [bits_and _ _ (by omega) (by omega), Nat.and_one_is_mod, Nat.testBit_eq_decide_div_mod_eq]
  have := Nat.mod_two_eq_zero_or_one (s / 2 ^ k)
  rcases this with h | h <;> rw [h] <;> rfl
/-- A list of numbers from 0 to 7 as a set. -/
def maskN (l : List Int) : Nat := l.foldl (fun (s : Nat) (i : Int) => s ||| 2 ^ i.toNat) 0
theorem maskN_snoc (l : List Int) (i : Int) : maskN (l ++ [i]) = maskN l ||| 2 ^ i.toNat := by unfold maskN; rw [List.foldl_append]; rfl
theorem mask_take {l : List Int} {k : Nat} {i : Int} (h : l[k]? = some i) : maskN (l.take (k + 1)) = maskN (l.take k) ||| 2 ^ i.toNat := by
  rw [List.take_add_one, h]; exact maskN_snoc _ _
theorem mask_bit_aux (l : List Int) (j : Nat) : ∀ s : Nat, (l.foldl (fun (s : Nat) (i : Int) => s ||| 2 ^ i.toNat) s).testBit j = (s.testBit j || l.any fun i => decide (i.toNat = j)) := by
  induction l with
  | nil => intro s; simp
  | cons x r ih => intro s; rw [List.foldl_cons, ih, List.any_cons, Nat.testBit_or, Nat.testBit_two_pow, Bool.or_assoc]
theorem mask_bit (l : List Int) (j : Nat) : (maskN l).testBit j = l.any fun i => decide (i.toNat = j) := by
  unfold maskN; rw [mask_bit_aux]; simp
theorem pow_lt8 {i : Nat} (h : i < 8) : 2 ^ i < 256 := Nat.pow_lt_pow_right (by decide) h
theorem mask_lt {l : List Int} (h : ∀ i ∈ l, i.toNat < 8) : maskN l < 256 := by
  have : ∀ (l : List Int) (s : Nat), s < 2 ^ 8 → (∀ i ∈ l, i.toNat < 8) → l.foldl (fun (s : Nat) (i : Int) => s ||| 2 ^ i.toNat) s < 2 ^ 8 := by
    intro l
    induction l with
    | nil => intro s hs _; exact hs
    | cons x r ih => intro s hs h; rw [List.foldl_cons]; exact ih _ (Nat.or_lt_two_pow hs (pow_lt8 (h x (by simp)))) fun i hi => h i (by simp [hi])
  exact this l 0 (by decide) h
theorem mask_zero {l : List Int} : maskN l = 0 ↔ l = [] := by
  constructor
  · intro h
    cases l with
    | nil => rfl
    | cons x r =>
      have := mask_bit (x :: r) x.toNat
      rw [h, List.any_cons] at this
      simp at this
  · rintro rfl; rfl
theorem and_zero {a b : Nat} : a &&& b = 0 ↔ ∀ j, ¬ (a.testBit j = true ∧ b.testBit j = true) := by
  constructor
  · intro h j hj
    have := Nat.testBit_and a b j
    rw [h, hj.1, hj.2] at this
    simp at this
  · intro h
    refine Nat.eq_of_testBit_eq fun j => ?_
    rw [Nat.testBit_and, Nat.zero_testBit]
    cases h1 : a.testBit j <;> cases h2 : b.testBit j <;> simp
    exact h j ⟨h1, h2⟩
/-- A set of tests has one of each list. -/
def hasB (s : Nat) (l : List Int) : Bool := l.any fun i => s.testBit i.toNat
def covB (who : List (List Int)) (s : Nat) : Bool := who.all (hasB s)
def misB (s x : Nat) : Bool := decide (x &&& s = 0)
theorem misB_mask (l : List Int) (s : Nat) : misB s (maskN l) = !hasB s l := by
  have : misB s (maskN l) = true ↔ ¬ hasB s l = true := by
    unfold misB hasB
    rw [decide_eq_true_eq, and_zero, List.any_eq_true]
    constructor
    · rintro h ⟨i, hi, hs⟩
      exact h i.toNat ⟨by rw [mask_bit]; exact List.any_eq_true.2 ⟨i, hi, by simp⟩, hs⟩
    · rintro h j ⟨h1, h2⟩
      rw [mask_bit, List.any_eq_true] at h1
      obtain ⟨i, hi, hij⟩ := h1
      have := of_decide_eq_true hij
      subst this
      exact h ⟨i, hi, h2⟩
  cases h1 : misB s (maskN l) <;> cases h2 : hasB s l <;> simp_all
/-- The numbers of a set. -/
def bitsL (n s : Nat) : List Int := (List.range n).filterMap fun i : Nat => if s.testBit i then some (i : Int) else none
theorem bitsL_succ (n s : Nat) : bitsL (n + 1) s = bitsL n s ++ if s.testBit n then [(n : Int)] else [] := by
  unfold bitsL
  rw [List.range_succ, List.filterMap_append]
  simp only [List.filterMap_cons, List.filterMap_nil]
  cases s.testBit n <;> rfl
theorem bitsL_len (n s : Nat) : (bitsL n s).length ≤ n := by
  unfold bitsL; refine Nat.le_trans (List.length_filterMap_le _ _) ?_; simp
/-- The best set so far, step by step. -/
def lessL (a b : List Int) : Bool := decide (a.length < b.length) || (decide (a.length = b.length) && ltIs a b)
def stepB (n : Nat) (who : List (List Int)) (st : List Int × Bool) (s : Nat) : List Int × Bool := if covB who s && (!st.2 || lessL (bitsL n s) st.1) then (bitsL n s, true) else st
def bestN (n : Nat) (who : List (List Int)) (k : Nat) : List Int × Bool := (List.range k).foldl (stepB n who) ([], false)
theorem bestN_succ (n : Nat) (who : List (List Int)) (k : Nat) : bestN n who (k + 1) = stepB n who (bestN n who k) k := by
  unfold bestN; rw [List.range_succ, List.foldl_append]; rfl
/-- The lists of tests that kill the mutants which some test kills. -/
def killL (p : List Ln) (ts : List Tst) : List (List Int) := ((mutM p p.length).map fun m => brkO p [m] ts).filter fun l => !l.isEmpty
def killN (p : List Ln) (ts : List Tst) (M : List Ed) (k : Nat) : List (List Int) := ((M.take k).map fun m => brkO p [m] ts).filter fun l => !l.isEmpty
theorem killN_succ {p : List Ln} {ts : List Tst} {M : List Ed} {k : Nat} {m : Ed} (h : M[k]? = some m) : killN p ts M (k + 1) = killN p ts M k ++ if (brkO p [m] ts).length = 0 then [] else [brkO p [m] ts] := by
  unfold killN
  rw [List.take_add_one, h, List.map_append, List.filter_append]
  congr 1
  cases hb : brkO p [m] ts <;> simp [hb]
theorem killN_all (p : List Ln) (ts : List Tst) : killN p ts (mutM p p.length) (mutM p p.length).length = killL p ts := by unfold killN killL; rw [List.take_length]
def enM (p : List Ln) (ts : List Tst) : List Int := (bestN ts.length (killL p ts) (2 ^ ts.length)).1
def enO (p : List Ln) (ts : List Tst) : List Int := ifOK (chkT p ts) (enM p ts)
theorem brkO_mem {p : List Ln} {x : List Ed} {ts : List Tst} {i : Int} (h : i ∈ brkO p x ts) : 0 ≤ i ∧ i.toNat < ts.length := by
  unfold brkO at h
  by_cases hc : chkX p x ts = 0
  · rw [hc, ifOK_ok] at h
    obtain ⟨k, t, rfl, ht, _⟩ := mem_whereL.1 h
    have := (List.getElem?_eq_some_iff.1 ht).1
    exact ⟨by omega, by omega⟩
  · rw [ifOK_err hc] at h; cases h
theorem bestN_found {n : Nat} {who : List (List Int)} {k : Nat} : (bestN n who k).2 = true ∨ (∀ s, s < k → covB who s = false) ∧ bestN n who k = ([], false) := by
  induction k with
  | zero => exact .inr ⟨fun s hs => by omega, rfl⟩
  | succ k ih =>
    rw [bestN_succ]
    unfold stepB
    rcases ih with h | ⟨h1, h2⟩
    · left
      split
      · rfl
      · exact h
    · rw [h2]
      cases hc : covB who k with
      | true => left; simp
      | false =>
        right
        refine ⟨fun s hs => ?_, by simp⟩
        by_cases hsk : s = k
        · subst hsk; exact hc
        · exact h1 s (by omega)
theorem bestN_is {n : Nat} {who : List (List Int)} {k : Nat} (h : (bestN n who k).2 = true) : ∃ s, s < k ∧ covB who s = true ∧ (bestN n who k).1 = bitsL n s := by
  induction k with
  | zero => cases h
  | succ k ih =>
    rw [bestN_succ] at h ⊢
    unfold stepB at h ⊢
    split
    · next hc => rw [Bool.and_eq_true] at hc; exact ⟨k, by omega, hc.1, rfl⟩
    · next hc =>
      rw [if_neg hc] at h
      obtain ⟨s, hs, h1, h2⟩ := ih h
      exact ⟨s, by omega, h1, h2⟩
/-- The set of all tests has one of each list of kills. -/
theorem cov_all {p : List Ln} {ts : List Tst} : covB (killL p ts) (2 ^ ts.length - 1) = true := by
  unfold covB
  rw [List.all_eq_true]
  intro l hl
  unfold killL at hl
  rw [List.mem_filter, List.mem_map] at hl
  obtain ⟨⟨m, _, rfl⟩, hne⟩ := hl
  unfold hasB
  rw [List.any_eq_true]
  cases hb : brkO p [m] ts with
  | nil => rw [hb] at hne; simp at hne
  | cons i r =>
    have := brkO_mem (p := p) (x := [m]) (ts := ts) (i := i) (by rw [hb]; simp)
    exact ⟨i, by simp, by rw [Nat.testBit_two_pow_sub_one]; exact decide_eq_true this.2⟩
end Go.Proofs.YtfbfkkaepgcggaaGreat

namespace Go.Proofs.YtfbfkkaepgcggaaGreat

theorem ltIs_trans : ∀ {a b c : List Int}, ltIs a b = true → ltIs b c = true → ltIs a c = true
  | [], [], _, h, _ => by cases h
  | [], _ :: _, [], _, h => by cases h
  | [], _ :: _, _ :: _, _, _ => rfl
  | _ :: _, [], _, h, _ => by cases h
  | _ :: _, _ :: _, [], _, h => by cases h
  | x :: a, y :: b, z :: c, h1, h2 => by
    unfold ltIs at h1 h2 ⊢
    by_cases e1 : x = y
    · subst e1
      rw [if_pos rfl] at h1
      by_cases e2 : x = z
      · rw [if_pos e2] at h2 ⊢; exact ltIs_trans h1 h2
      · rw [if_neg e2] at h2 ⊢; exact h2
    · rw [if_neg e1] at h1
      have h1 := of_decide_eq_true h1
      by_cases e2 : y = z
      · subst e2; rw [if_neg e1]; exact decide_eq_true h1
      · rw [if_neg e2] at h2
        have h2 := of_decide_eq_true h2
        rw [if_neg (by omega)]; exact decide_eq_true (by omega)
theorem ltIs_irrefl : ∀ a : List Int, ltIs a a = false
  | [] => rfl
  | x :: a => by unfold ltIs; rw [if_pos rfl]; exact ltIs_irrefl a
theorem lessL_iff {a b : List Int} : lessL a b = true ↔ a.length < b.length ∨ a.length = b.length ∧ ltIs a b = true := by
  unfold lessL; simp
theorem lessL_trans {a b c : List Int} (h1 : lessL a b = true) (h2 : lessL b c = true) : lessL a c = true := by
  rw [lessL_iff] at *
  rcases h1 with h1 | ⟨h1, h3⟩ <;> rcases h2 with h2 | ⟨h2, h4⟩
  · left; omega
  · left; omega
  · left; omega
  · right; exact ⟨by omega, ltIs_trans h3 h4⟩
theorem lessL_irrefl (a : List Int) : lessL a a = false := by
  cases h : lessL a a with
  | false => rfl
  | true =>
    rw [lessL_iff, ltIs_irrefl] at h
    rcases h with h | ⟨_, h⟩
    · omega
    · cases h
/-- No set is better than the one that has been found. -/
theorem bestN_least {n : Nat} {who : List (List Int)} {k : Nat} : (bestN n who k).2 = true → ∀ s, s < k → covB who s = true → lessL (bitsL n s) (bestN n who k).1 = false := by
  induction k with
  | zero => intro h; cases h
  | succ k ih =>
    intro h s hs hc
    rw [bestN_succ] at h ⊢
    unfold stepB at h ⊢
    by_cases ht : (covB who k && (!(bestN n who k).2 || lessL (bitsL n k) (bestN n who k).1)) = true
    · rw [if_pos ht] at h ⊢
      rw [Bool.and_eq_true, Bool.or_eq_true] at ht
      dsimp only
      by_cases hsk : s = k
      · subst hsk; exact lessL_irrefl _
      · cases hl : lessL (bitsL n s) (bitsL n k) with
        | false => rfl
        | true =>
          cases hf : (bestN n who k).2 with
          | false =>
            rcases bestN_found (n := n) (who := who) (k := k) with h3 | ⟨h3, _⟩
            · rw [hf] at h3; cases h3
            · rw [h3 s (by omega)] at hc; cases hc
          | true =>
            have h5 := ih hf s (by omega) hc
            rcases ht.2 with h2 | h2
            · rw [hf] at h2; cases h2
            · rw [lessL_trans hl h2] at h5; cases h5
    · rw [if_neg ht] at h ⊢
      by_cases hsk : s = k
      · subst hsk
        rw [hc, h] at ht
        simpa using ht
      · exact ih h s (by omega) hc

def bitsN (n s : Nat) : List Nat := (List.range n).filter fun i => s.testBit i
theorem bitsN_L (n s : Nat) : bitsL n s = natL (bitsN n s) := by
  unfold bitsL bitsN natL
  generalize List.range n = l
  induction l with
  | nil => rfl
  | cons x l ih => rw [List.filterMap_cons, List.filter_cons]; cases s.testBit x <;> simp [ih]
theorem ascF_filter {n : Nat} (p : Nat → Bool) : ∀ {l : List Nat} {f : Nat}, ascF n f l → ascF n f (l.filter p)
  | [], _, _ => trivial
  | x :: l, f, ⟨h1, h2, h3⟩ => by
    rw [List.filter_cons]
    cases p x with
    | true => exact ⟨h1, h2, ascF_filter p h3⟩
    | false => exact ascF_mono (by omega) (ascF_filter p h3)
theorem lexN_natL : ∀ a b : List Nat, ltIs (natL a) (natL b) = lexN a b
  | [], [] => rfl
  | [], _ :: _ => rfl
  | _ :: _, [] => rfl
  | x :: a, y :: b => by
    show (if (x : Int) = (y : Int) then ltIs (natL a) (natL b) else decide ((x : Int) < y)) = if x = y then lexN a b else decide (x < y)
    by_cases h : x = y
    · rw [if_pos h, if_pos (by rw [h]), lexN_natL a b]
    · rw [if_neg h, if_neg (by omega)]; exact decide_eq_decide.2 (by omega)
theorem lexN_total : ∀ {a b : List Nat}, a.length = b.length → a = b ∨ lexN a b = true ∨ lexN b a = true
  | [], [], _ => .inl rfl
  | [], _ :: _, h => by cases h
  | _ :: _, [], h => by cases h
  | x :: a, y :: b, h => by
    unfold lexN
    by_cases e : x = y
    · subst e
      rw [if_pos rfl, if_pos rfl]
      rcases lexN_total (a := a) (b := b) (by simpa using h) with h1 | h1
      · left; rw [h1]
      · right; exact h1
    · rw [if_neg e, if_neg (fun e' => e e'.symm)]
      right
      simp only [decide_eq_true_eq]
      omega
theorem mem_bitsN {n s k : Nat} : k ∈ bitsN n s ↔ k < n ∧ s.testBit k = true := by unfold bitsN; rw [List.mem_filter, List.mem_range]
theorem bitsN_asc (n s : Nat) : ascF n 0 (bitsN n s) := ascF_filter _ (ascF_range n)
/-- An ascending list is the list of some set. -/
theorem asc_bits {n : Nat} {Y : List Nat} (h : ascF n 0 Y) : ∃ s, s < 2 ^ n ∧ bitsN n s = Y := by
  refine ⟨maskN (natL Y), ?_, ?_⟩
  · have : ∀ (l : List Nat) (s : Nat), s < 2 ^ n → (∀ i ∈ l, i < n) → (natL l).foldl (fun (s : Nat) (i : Int) => s ||| 2 ^ i.toNat) s < 2 ^ n := by
      intro l
      induction l with
      | nil => intro s hs _; exact hs
      | cons x r ih =>
        intro s hs h
        exact ih _ (Nat.or_lt_two_pow hs (Nat.pow_lt_pow_right (by decide) (h x (List.mem_cons_self ..)))) fun i hi => h i (List.mem_cons_of_mem _ hi)
    exact this Y 0 (Nat.two_pow_pos n) fun i hi => (ascF_mem h hi).2
  · refine asc_ext (bitsN_asc n _) h fun x => ?_
    rw [mem_bitsN, mask_bit, List.any_eq_true]
    constructor
    · rintro ⟨h1, i, hi, h2⟩
      obtain ⟨m, hm, rfl⟩ := natL_mem.1 hi
      have h2 := of_decide_eq_true h2
      rw [Int.toNat_natCast] at h2
      rw [← h2]; exact hm
    · intro hx
      exact ⟨(ascF_mem h hx).2, x, natL_mem.2 ⟨x, hx, rfl⟩, by simp⟩

/-- A table of kills: K g is the list of the rows that meet the goal g. -/
structure TabK (hit : Nat → Nat → Bool) (K : Nat → List Int) (n G : Nat) : Prop where
  hit : ∀ r, r < n → ∀ g, g < G → hit r g = decide ((r : Int) ∈ K g)
  in_ : ∀ g, g < G → ∀ i ∈ K g, 0 ≤ i ∧ i.toNat < n
theorem TabK.cov {hit : Nat → Nat → Bool} {K : Nat → List Int} {n G : Nat} (h : TabK hit K n G) {S : List Nat} (hS : ∀ r ∈ S, r < n) : covH hit G n S = true ↔ ∀ g, g < G → K g ≠ [] → ∃ r ∈ S, (r : Int) ∈ K g := by
  rw [cov_iff hS]
  constructor
  · intro h1 g hg hne
    obtain ⟨i, hi⟩ := List.exists_mem_of_ne_nil _ hne
    obtain ⟨h2, h3⟩ := h.in_ g hg i hi
    have ho : g ∈ openH hit G n := List.mem_filter.2 ⟨List.mem_range.2 hg, List.any_eq_true.2 ⟨i.toNat, List.mem_range.2 h3, by rw [h.hit _ h3 g hg]; exact decide_eq_true (by rw [Int.toNat_of_nonneg h2]; exact hi)⟩⟩
    obtain ⟨r, hr, hh⟩ := List.any_eq_true.1 (h1 g ho)
    rw [h.hit r (hS r hr) g hg] at hh
    exact ⟨r, hr, of_decide_eq_true hh⟩
  · intro h1 g hg
    have hgG : g < G := met_lt hg
    obtain ⟨r, hr, hh⟩ := List.any_eq_true.1 (List.mem_filter.1 hg).2
    rw [h.hit r (List.mem_range.1 hr) g hgG] at hh
    obtain ⟨r', hr', hk⟩ := h1 g hgG (List.ne_nil_of_mem (of_decide_eq_true hh))
    exact List.any_eq_true.2 ⟨r', hr', by rw [h.hit r' (hS r' hr') g hgG]; exact decide_eq_true hk⟩
/-- What is enough, as a set of rows. -/
theorem enM_tab {p : List Ln} {ts : List Tst} {hit : Nat → Nat → Bool} {K : Nat → List Int} {G : Nat} (hT : TabK hit K ts.length G) (hG : G ≤ (mutM p p.length).length) (hK : ∀ g, g < G → ∀ m, (mutM p p.length)[g]? = some m → K g = brkO p [m] ts) :
    ∃ S, enM p ts = natL S ∧ ascF ts.length 0 S ∧ covH hit G ts.length S = true ∧ (G = (mutM p p.length).length → Smallest (covH hit G ts.length) ts.length S) := by
  have hf : (bestN ts.length (killL p ts) (2 ^ ts.length)).2 = true := by
    rcases bestN_found (n := ts.length) (who := killL p ts) (k := 2 ^ ts.length) with h | ⟨h, _⟩
    · exact h
    · have := h (2 ^ ts.length - 1) (by have := Nat.two_pow_pos ts.length; omega)
      rw [cov_all] at this; cases this
  obtain ⟨s, _, h1, h2⟩ := bestN_is hf
  have hmem : ∀ g, g < G → ∃ m, (mutM p p.length)[g]? = some m := fun g hg => ⟨_, List.getElem?_eq_getElem (by omega)⟩
  have hsub : ∀ g, g < G → K g ≠ [] → K g ∈ killL p ts := fun g hg hne => by
    obtain ⟨m, hm⟩ := hmem g hg
    unfold killL
    refine List.mem_filter.2 ⟨List.mem_map.2 ⟨m, List.mem_of_getElem? hm, (hK g hg m hm).symm⟩, ?_⟩
    cases hk : K g with
    | nil => exact absurd hk hne
    | cons _ _ => rfl
  have hcov : covH hit G ts.length (bitsN ts.length s) = true := by
    rw [hT.cov (fun r hr => (mem_bitsN.1 hr).1)]
    intro g hg hne
    have h3 := List.all_eq_true.1 h1 _ (hsub g hg hne)
    obtain ⟨i, hi, hb⟩ := List.any_eq_true.1 h3
    obtain ⟨h4, h5⟩ := hT.in_ g hg i hi
    exact ⟨i.toNat, mem_bitsN.2 ⟨h5, hb⟩, by rw [Int.toNat_of_nonneg h4]; exact hi⟩
  refine ⟨bitsN ts.length s, by unfold enM; rw [h2, bitsN_L], bitsN_asc _ _, hcov, fun hGe => ⟨bitsN_asc _ _, hcov, fun Y hY hc => ?_⟩⟩
  obtain ⟨t, ht, htY⟩ := asc_bits hY
  have hcb : covB (killL p ts) t = true := by
    unfold covB
    rw [List.all_eq_true]
    intro l hl
    unfold killL at hl
    rw [List.mem_filter, List.mem_map] at hl
    obtain ⟨⟨m, hm, rfl⟩, hne⟩ := hl
    obtain ⟨g, hg, hgm⟩ := List.getElem_of_mem hm
    have hk := hK g (by omega) m (by rw [List.getElem?_eq_getElem hg, hgm])
    rw [hT.cov (fun r hr => (ascF_mem hY hr).2)] at hc
    obtain ⟨r, hr, hrk⟩ := hc g (by omega) (by intro e; rw [hk] at e; rw [e] at hne; simp at hne)
    rw [hk] at hrk
    rw [← htY] at hr
    exact List.any_eq_true.2 ⟨_, hrk, by rw [Int.toNat_natCast]; exact (mem_bitsN.1 hr).2⟩
  have h6 := bestN_least hf t ht hcb
  rw [h2, bitsN_L, bitsN_L, htY] at h6
  have h7 : ¬ (lessL (natL Y) (natL (bitsN ts.length s)) = true) := by rw [h6]; simp
  rw [lessL_iff, natL_len, natL_len, lexN_natL] at h7
  by_cases hl : (bitsN ts.length s).length < Y.length
  · exact .inl hl
  · have hle : (bitsN ts.length s).length = Y.length := by
      by_cases h8 : Y.length < (bitsN ts.length s).length
      · exact absurd (.inl h8) h7
      · omega
    refine .inr ⟨hle, ?_⟩
    rcases lexN_total hle with e | h8 | h8
    · exact .inl e.symm
    · exact .inr h8
    · exact absurd (.inr ⟨hle.symm, h8⟩) h7
end Go.Proofs.YtfbfkkaepgcggaaGreat

namespace Go.Proofs.YtfbfkkaepgcggaaGreat
open Go.RowKit

/-- A set of tests in a box. -/
def SInv (cb s : Nat) (X : World) : Prop := X.heap[cb]? = some (.cells #[.int .i64 (s : Int)] 3 (0, 0))
def misI (s : Nat) (x : Int) : Bool := decide (bits .and .i64 x (s : Int) = 0)
theorem misI_nat (s x : Nat) (hx : x < 256) (hs : s < 256) : misI s (x : Int) = misB s x := by
  unfold misI misB
  rw [bits_and x s (by omega) (by omega), decide_eq_decide]
  omega
set_option maxHeartbeats 2000000 in
theorem enF_any (x : Int) (s cb : Nat) (w : World) (hb : SInv cb s w) (R : Ending → World → Prop) (hR : ∀ w', Grow w w' → R (.returned (.bool (misI s x))) w') :
    Calls Tryz.prog 50 #[.int .i64 x, .pointer (some ⟨cb, 0, none⟩)] w R := by
  have e0 := box1 hb
  have hz := lt_of_block hb
  have HF := Lib.hid (hR w (Grow.refl w))
  unfold misI at HF
  obtain ⟨c, hc⟩ : ∃ c, bits .and .i64 x (s : Int) = c := ⟨_, rfl⟩
  rw [hc] at HF
  clear hR hb
  by_cases h0 : c = 0
  · rw [decide_eq_true h0] at HF
    subst h0
    go_enter Tryz.func50, Tryz.ntmps50
    go_wp2_with fail
    exact HF.out
  · rw [decide_eq_false h0] at HF
    have ha3 : (c == 0) = false := beq_eq_false_iff_ne.2 h0
    go_enter Tryz.func50, Tryz.ntmps50
    go_wp2_with fail
    exact HF.out
set_option maxHeartbeats 2000000 in
theorem containsFI_any (f : Nat) (cb : Array Value) (eg : Enters Tryz.prog f) (pr : Int → Bool) (Inv : World → Prop) (hI : ∀ W W', Inv W → Grow W W' → Inv W') (hp : PredW f cb pr Inv) (xs : List Int) (v : Value) (w : World) (hv : IntsAt w v xs) (hi : Inv w) (R : Ending → World → Prop)
    (hR : ∀ w', Grow w w' → R (.returned (.bool (xs.any pr))) w') :
    Calls Tryz.prog 49 #[v, .func (.func f) #[] cb] w R := by
  have HV := Lib.hid hv
  have HR := Lib.hid hR
  obtain ⟨va, vc, rfl, v1, v2, jk⟩ := hv
  clear hR jk
  go_enter Tryz.func49, Tryz.ntmps49
  go_wp2_with fail
  refine indexFI_any f cb eg pr Inv hI hp xs _ _ HV.out hi _ ?_ ?_
  · intro w1 k x hg1 hx hpx _
    have hr := HR.out w1 hg1
    rw [List.any_eq_true.2 ⟨x, List.mem_of_getElem? hx, hpx⟩] at hr
    have HF := Lib.hid hr
    have hk0 : (0 : Int) ≤ (k : Int) := by omega
    clear hr hg1 hx hpx
    go_wp2_with fail
    exact HF.out
  · intro w1 hg1 hno
    have hr := HR.out w1 hg1
    rw [show xs.any pr = false by rw [List.any_eq_false]; intro y hy; rw [hno y hy]; simp] at hr
    have HF := Lib.hid hr
    clear hr hg1 hno
    go_wp2_with fail
    exact HF.out
end Go.Proofs.YtfbfkkaepgcggaaGreat
