/-
The walks of mutants and Mutants.
Lists of lists that the call has made: what a cell of the outer list holds, and one more list appended. No program is named.
The walk of Alive: the mutants that no test kills.
Sets of tests as numbers: the digits in twos, and the smallest set that kills as much as all: plain laws.
The walks of the library's Compare and ContainsFunc on numbers, of the document's Before, and of the test of one set.
The walk of Enough.
-/
import Derived.Test.YtbccbokjecdaaaaGreatG18
import Derived.Test.YtbccbokjecdaaaaGreatG16
import Derived.Test.YtbccbokjecdaaaaGreatG07
import Derived.Maps.AppendAt
import Derived.Test.YtbccbokjecdaaaaGreatG17
import Derived.Test.YtbccbokjecdaaaaGreatG04
namespace Go.Proofs.YtbccbokjecdaaaaGreat
open Go.RowKit

/-- append of one element, and where the new list lies. -/
theorem wpList_appAt {P : Program} {α : Type} (w : World) {ops : Array Oper} {rest : List Oper} {o : Oper} {a : Act} {Q : Exit → Act → World → Prop} (hgd : o.guard = none) (s x : Operand) (t : TypeId)
    (ho : o.op = .call { callee := .builtin .append, args := #[s, x], argTypes := #[t, t] })
    (base : Nat) (e : TypeId) {k bytes : Nat} {z : Value} (ht : P.underlying t = some (.slice e)) (info : (P.info? e).map (fun i => (i.zero, i.size, i.bytes)) = some (some z, k, bytes))
    (hzs : z.cells.size = k) (hk : 0 < k) (hby : bytes ≤ 1000)
    (enc : α → List Value) (hen : ∀ x, (enc x).length = k) (h1 : ∀ x, ∀ u ∈ enc x, u.oneCell' = true)
    (v : Value) (xs : List α) (hs : a.eval s = v) (hown : w.ownsRow base e k v xs.length (xs.flatMap enc)) (ad : Addr) (y : α) (c : Nat) (hx : a.eval x = .slice (some ad) 1 c)
    (hnews : ∀ j u, (enc y)[j]? = some u → w.cell? (ad.add j) = some u) (hn : xs.length < 100000000000) (hbase : base ≤ w.heap.size)
    (h : ∀ v' w', w'.ownsRow base e k v' (xs ++ [y]).length ((xs ++ [y]).flatMap enc) → w.grownBy w' v.ownBlock → (v'.ownBlock = v.ownBlock ∨ v'.ownBlock = some w.heap.size) → wpList P ops Q rest (a.put o.dst v') w') : wpList P ops Q (o :: rest) a w := by
  obtain ⟨i, hi, hz0, hz1, hz2⟩ := info_parts info
  refine wpList_append_own_at w hgd s x t ho base e i z k bytes ht hi hz0 hz1 hz2 hzs hk v xs.length (xs.flatMap enc) hs hown ad 1 c (enc y) hx (by rw [hen]; omega) hnews (h1 y) (by unfold maxLen; omega) ?_ hbase ?_
  · exact Nat.le_trans (Nat.mul_le_mul (show xs.length + 1 ≤ 100000000000 by omega) hby) (by decide)
  · intro v' w' a1 a2 _ a4
    refine h v' w' ?_ a2 a4
    rw [List.length_append, List.flatMap_append]
    simpa using a1
theorem slc_kept {α : Type} {k : Nat} {enc : α → List Value} {w w' : World} {a : Option Addr} {n c : Nat} {xs : List α} {row : Option Nat} (h : SlcAt k enc w (.slice a n c) xs) (hg : w.grownBy w' row) (hne : ∀ b o s, a = some ⟨b, o, s⟩ → row ≠ some b) : SlcAt k enc w' (.slice a n c) xs := by
  obtain ⟨_, _, e, h1, h2, h3⟩ := h
  cases e
  refine ⟨a, c, rfl, h1, h2, h3.imp id ?_⟩
  rintro ⟨b, o, rfl, hb, hc⟩
  exact ⟨b, o, rfl, Nat.lt_of_lt_of_le hb hg.size, fun j x hx i u hu => hg.cell (hc j x hx i u hu) (fun e => hne b o none rfl e.symm)⟩
set_option maxRecDepth 100000 in
set_option maxHeartbeats 16000000 in
theorem mutants_any (p : List Ln) (pv : Value) (w : World) (hp : LinesAt w pv p) (hval : valP p = 0) (R : Ending → World → Prop)
    (hR : ∀ w' v, Grow w w' → OwnE w.heap.size w' v (mutM p p.length) → R (.returned v) w') :
    Calls Tryz.prog 54 #[pv] w R := by
  have HP := Lib.hid hp
  have HR := Lib.hid hR
  have HV := Lib.hid hval
  have hp8 := (valP_ok.1 hval).1
  have HALL := Lib.hid (valP_ok.1 hval).2
  obtain ⟨pa, pc, rfl, p1, p2, _⟩ := hp
  clear hR hval
  go_enter Tryz.func54, Tryz.ntmps54
  go_wp2_with fail
  go_loopw [3, 4, 5, 7, 10, 18] (fun out _ _ _ i _ wr => ∃ (k : Nat) (ov : Value), k ≤ p.length ∧ i = .int .i64 k ∧ ov = out ∧ Grow w wr ∧ wr.ownsRow w.heap.size 27 5 ov (mutM p k).length ((mutM p k).flatMap encE)) (fun _ _ _ _ i _ _ => p.length - (intOf i).toNat)
  case atStart => exact ⟨0, _, Nat.zero_le _, rfl, rfl, Grow.refl _, World.ownsRow_nil _ _ _ _⟩
  case round =>
    obtain ⟨k, out, hk, rfl, rfl, hg, how⟩ := hrel
    have HG := Lib.hid hg
    have HOW := Lib.hid how
    have hzw := hg.sz
    clear hg how
    by_cases hlt : k < p.length
    · obtain ⟨⟨op, d, a, b⟩, hx⟩ : ∃ x, p[k]? = some x := ⟨_, List.getElem?_eq_getElem hlt⟩
      obtain ⟨gp, o, rfl, hgp, y0, y1, y2, y3⟩ := lines_at (HP.out.grow HG.out) hx
      have hlt2 : (k : Int) < (p.length : Int) := by omega
      have hla : lineAt p (k : Int) = ⟨op, d, a, b⟩ := by unfold lineAt; rw [show ((k : Int)).toNat = k by omega, hx]; rfl
      have HOKL := Lib.hid (show vL op d a b = true from HALL.out _ (List.mem_of_getElem? hx))
      have hlen := mutM_len HV.out k hk
      have htl := tmpl_len (l := ⟨op, d, a, b⟩) HOKL.out
      have hsc := mutM_succ p k
      rw [hla] at hsc
      obtain ⟨L, hL⟩ : ∃ L, tmpl ⟨op, d, a, b⟩ = L := ⟨_, rfl⟩
      rw [hL] at hsc htl
      have HSC := Lib.hid hsc
      have HL := Lib.hid hL
      clear hx hla hsc hL
      go_wp2_with fail
      have hgb := (Grow.refl wr).alloc (.cells #[.int .i64 op, .int .i64 d, .int .i64 a, .int .i64 b] 25)
      have hsW : (wr.alloc (.cells #[.int .i64 op, .int .i64 d, .int .i64 a, .int .i64 b] 25)).heap.size = wr.heap.size + 1 := by simp
      generalize wr.alloc (.cells #[.int .i64 op, .int .i64 d, .int .i64 a, .int .i64 b] 25) = W at hgb hsW ⊢
      have hszW := hgb.sz
      refine templatesN_any op d a b _ HOKL.out _ ?_
      intro w1 v1 hg1 hv1
      rw [HL.out] at hv1
      obtain ⟨hv1, hv1n⟩ := hv1
      have HV1 := Lib.hid hv1
      obtain ⟨a1, c1, rfl, q1, q2, _⟩ := hv1
      have HNE := Lib.hid (show ∀ b o s, a1 = some ⟨b, o, s⟩ → out.ownBlock ≠ some b from fun b o s h he => by have h1 := hv1n b o s _ _ (by rw [h]); have h2 := (HOW.out.lt b he).2; omega)
      have HG1 := Lib.hid (HG.out.trans (hgb.trans hg1))
      have HO1 := Lib.hid ((hgb.trans hg1).owns HOW.out)
      have hz1 := (HG.out.trans (hgb.trans hg1)).sz
      clear hgb hg1 y0 y1 y2 y3 HOW
      go_wp2_with fail
      obtain ⟨wo, hwo⟩ : ∃ z : World, z = wr := ⟨_, rfl⟩
      clear hwo
      go_loopw [3, 7, 18] (fun out _ i wr => ∃ j : Nat, j ≤ L.length ∧ i = .int .i64 j ∧ Grow w wr ∧ LinesAt wr (.slice a1 L.length c1) L ∧ (∀ b o s, a1 = some ⟨b, o, s⟩ → out.ownBlock ≠ some b) ∧ wr.ownsRow w.heap.size 27 5 out (mutM p k ++ (L.take j).map (Ed.mk k)).length ((mutM p k ++ (L.take j).map (Ed.mk k)).flatMap encE)) (fun _ _ i _ => L.length - (intOf i).toNat)
      case atStart => exact ⟨0, Nat.zero_le _, rfl, HG1.out, HV1.out, HNE.out, by simpa using HO1.out⟩
      case round =>
        obtain ⟨j, hj, rfl, hgw, hlw, hnw, how⟩ := hrel
        have HGW := Lib.hid hgw
        have HLW := Lib.hid hlw
        have HNW := Lib.hid hnw
        have HOW := Lib.hid how
        have hzw2 := hgw.sz
        clear hgw hlw hnw how HO1 HV1 HNE
        by_cases hjl : j < L.length
        · obtain ⟨⟨o2, d2, a2, b2⟩, hx⟩ : ∃ x, L[j]? = some x := ⟨_, List.getElem?_eq_getElem hjl⟩
          obtain ⟨gA, oA, rfl, hgA, f0, f1, f2, f3⟩ := lines_at HLW.out hx
          have hjl2 : (j : Int) < (L.length : Int) := by omega
          have HTK := Lib.hid (show mutM p k ++ (L.take (j + 1)).map (Ed.mk k) = (mutM p k ++ (L.take j).map (Ed.mk k)) ++ [⟨(k : Int), ⟨o2, d2, a2, b2⟩⟩] by rw [List.take_add_one, hx, List.map_append, List.append_assoc]; rfl)
          have HLB := Lib.hid (show (mutM p k ++ (L.take j).map (Ed.mk k)).length < 100000000000 by rw [List.length_append, List.length_map, List.length_take]; omega)
          have hgb1 := (Grow.refl wr).alloc (.cells #[.int .i64 o2, .int .i64 d2, .int .i64 a2, .int .i64 b2] 25)
          have hgb2 := hgb1.alloc (.cells #[.int .i64 (k : Int), .int .i64 o2, .int .i64 d2, .int .i64 a2, .int .i64 b2] 27)
          clear hx
          go_wp2_with (at_builtin; refine wpList_appAt _ rfl (.tmp 22) (.tmp 26) 31 rfl w.heap.size 27 Tryz.underlying31 info_ed rfl (by decide) (by decide) encE encE_len encE_one _ (mutM p k ++ (L.take j).map (Ed.mk k)) rfl (hgb2.owns HOW.out) _ (⟨(k : Int), ⟨o2, d2, a2, b2⟩⟩ : Ed) 1 rfl (newsG _ _ (by simp) (encE ⟨(k : Int), ⟨o2, d2, a2, b2⟩⟩) _) HLB.out (by simp; omega) ?_; intro out2 w4 hown2 hgr2 hat2)
          have HG4 := Lib.hid (show Grow w w4 from grown_below HOW.out hgr2 (Nat.le_refl _) (by simp; omega) (HGW.out.trans hgb2))
          have HL4 := Lib.hid (slc_kept (HLW.out.grow hgb2) hgr2 HNW.out)
          have HN4 := Lib.hid (show ∀ b o s, (some (⟨gA, oA, none⟩ : Addr)) = some ⟨b, o, s⟩ → out2.ownBlock ≠ some b from fun b o s h he => by
            rcases hat2 with h2 | h2
            · rw [h2] at he; exact HNW.out b o s h he
            · rw [h2] at he
              cases h
              have := Option.some.inj he
              simp at this
              omega)
          have HO2 := Lib.hid hown2
          clear hown2 hgr2 hat2 f0 f1 f2 f3
          go_roundw
          case rel => exact ⟨j + 1, by omega, by go_num, HG4.out, HL4.out, HN4.out, by rw [HTK.out]; exact HO2.out⟩
          case measure => simp [intOf]; omega
        · have hjn : j = L.length := by omega
          have HO2 := HOW.out
          rw [hjn, List.take_length, ← HSC.out] at HO2
          have HO3 := Lib.hid HO2
          clear HO2 hjn
          go_wp2_with fail
          go_roundw
          case rel => exact ⟨k + 1, _, by omega, by go_num, rfl, HGW.out, HO3.out⟩
          case measure => simp [intOf]; omega
    · have hkn : k = p.length := by omega
      have HO2 := HOW.out
      rw [hkn] at HO2
      have hmb := mutM_len HV.out p.length (Nat.le_refl _)
      have HOE := Lib.hid (OwnE.of_own HO2)
      clear HO2 hkn
      go_wp2_with fail
      refine orderedE_any (mutM p p.length) (mutM_asc p _) w.heap.size _ _ HOE.out (by omega) _ ?_
      intro w5 hb5 ho5
      have HF := Lib.hid (HR.out w5 _ (Below.trans HG.out hb5) ho5)
      clear hb5 ho5
      go_wp2_with fail
      exact HF.out

set_option maxHeartbeats 4000000 in
theorem Mutants_any (p : List Ln) (pv : Value) (w : World) (hp : LinesAt w pv p) (R : Ending → World → Prop)
    (hR : ∀ w' v, Grow w w' → EditsAt w' v (mutO p) → R (.returned (.tuple #[v, .int .i64 (valP p)])) w') :
    Calls Tryz.prog 16 #[pv] w R := by
  have HP := Lib.hid hp
  rw [show mutO p = ifOK (valP p) (mutM p p.length) from rfl] at hR
  have HR := Lib.hid hR
  obtain ⟨e, he⟩ : ∃ e, valP p = e := ⟨_, rfl⟩
  rw [he] at HR
  have HE := Lib.hid he
  obtain ⟨pa, pc, rfl, _⟩ := hp
  clear hR he
  by_cases h0 : e = 0
  · subst h0
    rw [ifOK_ok] at HR
    go_enter Tryz.func16, Tryz.ntmps16
    go_wp2_with fail
    refine validate_any p _ _ HP.out _ ?_
    intro w1 hg1
    rw [HE.out]
    have HG1 := Lib.hid hg1
    clear hg1
    go_wp2_with fail
    refine mutants_any p _ _ (HP.out.grow HG1.out) HE.out _ ?_
    intro w2 v2 hg2 hv2
    have HF := Lib.hid (HR.out w2 v2 (HG1.out.trans hg2) hv2.edits)
    clear hg2 hv2
    go_wp2_with fail
    exact HF.out
  · rw [ifOK_err h0] at HR
    have t1 : (e != 0) = true := by simpa using h0
    clear h0
    go_enter Tryz.func16, Tryz.ntmps16
    go_wp2_with fail
    refine validate_any p _ _ HP.out _ ?_
    intro w1 hg1
    rw [HE.out]
    have HF := Lib.hid (HR.out w1 (.slice none 0 0) hg1 (SlcAt.nil _ _ _))
    clear hg1
    go_wp2_with fail
    exact HF.out
end Go.Proofs.YtbccbokjecdaaaaGreat

namespace Go.Proofs.YtbccbokjecdaaaaGreat
open Go.RowKit

/-- A list as it lies in a cell. -/
structure Lo (α : Type) where
  a : Option Addr
  n : Nat
  c : Nat
  x : List α
abbrev Lo.v {α : Type} (t : Lo α) : Value := .slice t.a t.n t.c
def encLo {α : Type} (t : Lo α) : List Value := [t.v]
theorem encLo_len {α : Type} (t : Lo α) : (encLo t).length = 1 := rfl
theorem encLo_one {α : Type} (t : Lo α) : ∀ u ∈ encLo t, u.oneCell' = true := by
  intro u hu
  unfold encLo at hu
  simp only [List.mem_cons, List.not_mem_nil, or_false] at hu
  subst hu
  rfl
theorem lo_at {α : Type} {w : World} {a : Option Addr} {n c : Nat} {L : List (Lo α)} (h : SlcAt 1 encLo w (.slice a n c) L) {k : Nat} {t : Lo α} (hx : L[k]? = some t) : ∃ b o, a = some ⟨b, o, none⟩ ∧ b < w.heap.size ∧ w.cell? ⟨b, o + k, none⟩ = some (.slice t.a t.n t.c) := by
  obtain ⟨_, _, e, _, _, h⟩ := h
  cases e
  obtain ⟨b, o, rfl, hb, hc⟩ := h.resolve_left (by intro h0; rw [h0.1] at hx; simp at hx)
  exact ⟨b, o, rfl, hb, by simpa using hc k t hx 0 _ rfl⟩
theorem own_blk2 {base k : Nat} {α : Type} {enc : α → List Value} {w : World} {a : Option Addr} {n c : Nat} {xs : List α} (h : Own k enc base w (.slice a n c) xs) : ∀ b o s, a = some ⟨b, o, s⟩ → base ≤ b ∧ b < w.heap.size := by
  obtain ⟨e, h⟩ := h
  intro b o s ha
  subst ha
  rcases h.2 with ⟨hv, _⟩ | ⟨g, cap, cur, hv, hg, hh, _⟩
  · cases hv
  · cases hv; exact ⟨hg, lt_of_block hh⟩
/-- A list of lists that the call has made, from the block base on; none of the lists lies in its block. -/
structure LoOwn {α : Type} (base : Nat) (T : TypeId) (k : Nat) (enc : α → List Value) (w : World) (v : Value) (L : List (Lo α)) : Prop where
  row : w.ownsRow base T 1 v L.length (L.flatMap encLo)
  ins : ∀ t ∈ L, SlcAt k enc w t.v t.x
  off : ∀ t ∈ L, ∀ b o s, t.a = some ⟨b, o, s⟩ → v.ownBlock ≠ some b ∧ b < w.heap.size
theorem LoOwn.nil {α : Type} (base : Nat) (T : TypeId) (k : Nat) (enc : α → List Value) (w : World) : LoOwn base T k enc w (.slice none 0 0) [] := ⟨World.ownsRow_nil _ _ _ _, by simp, by simp⟩
theorem LoOwn.grow {α : Type} {base : Nat} {T : TypeId} {k : Nat} {enc : α → List Value} {w w' : World} {v : Value} {L : List (Lo α)} (h : LoOwn base T k enc w v L) (g : Grow w w') : LoOwn base T k enc w' v L :=
  ⟨g.owns h.row, fun t ht => (h.ins t ht).grow g, fun t ht b o s hb => ⟨(h.off t ht b o s hb).1, Nat.lt_of_lt_of_le (h.off t ht b o s hb).2 g.sz⟩⟩
theorem LoOwn.lt {α : Type} {base : Nat} {T : TypeId} {k : Nat} {enc : α → List Value} {w : World} {v : Value} {L : List (Lo α)} (h : LoOwn base T k enc w v L) {b : Nat} (hb : v.ownBlock = some b) : b < w.heap.size := (h.row.lt b hb).2
theorem LoOwn.at_ {α : Type} {base : Nat} {T : TypeId} {k : Nat} {enc : α → List Value} {w : World} {v : Value} {L : List (Lo α)} (h : LoOwn base T k enc w v L) : SlcAt 1 encLo w v L := slc_of_owns encLo_len h.row
/-- A list that was made later than the outer one lies elsewhere. -/
theorem LoOwn.new {α : Type} {base : Nat} {T : TypeId} {k : Nat} {enc : α → List Value} {w w' : World} {v : Value} {L : List (Lo α)} (h : LoOwn base T k enc w v L) {β : Type} {k2 : Nat} {enc2 : β → List Value} {a : Option Addr} {n c : Nat} {xs : List β} (ho : Own k2 enc2 w.heap.size w' (.slice a n c) xs) : ∀ b o s, a = some ⟨b, o, s⟩ → v.ownBlock ≠ some b ∧ b < w'.heap.size := by
  intro b o s hb
  obtain ⟨h1, h2⟩ := own_blk2 ho b o s hb
  exact ⟨fun he => by have := h.lt he; omega, h2⟩
theorem LoOwn.app {α : Type} {base : Nat} {T : TypeId} {k : Nat} {enc : α → List Value} {w w' : World} {v v' : Value} {L : List (Lo α)} {t : Lo α} (h : LoOwn base T k enc w v L) (hgr : w.grownBy w' v.ownBlock) (hown : w'.ownsRow base T 1 v' (L ++ [t]).length ((L ++ [t]).flatMap encLo)) (hat : v'.ownBlock = v.ownBlock ∨ v'.ownBlock = some w.heap.size)
    (ht : SlcAt k enc w t.v t.x) (hoff : ∀ b o s, t.a = some ⟨b, o, s⟩ → v.ownBlock ≠ some b ∧ b < w.heap.size) : LoOwn base T k enc w' v' (L ++ [t]) := by
  have hall : ∀ u ∈ L ++ [t], SlcAt k enc w u.v u.x ∧ ∀ b o s, u.a = some ⟨b, o, s⟩ → v.ownBlock ≠ some b ∧ b < w.heap.size := by
    intro u hu
    rcases List.mem_append.1 hu with hu | hu
    · exact ⟨h.ins u hu, h.off u hu⟩
    · simp at hu; subst hu; exact ⟨ht, hoff⟩
  refine ⟨hown, fun u hu => slc_kept (hall u hu).1 hgr fun b o s hb => ((hall u hu).2 b o s hb).1, fun u hu b o s hb => ?_⟩
  obtain ⟨h1, h2⟩ := (hall u hu).2 b o s hb
  refine ⟨fun he => ?_, Nat.lt_of_lt_of_le h2 hgr.size⟩
  rcases hat with h3 | h3
  · rw [h3] at he; exact h1 he
  · rw [h3] at he; have := Option.some.inj he; omega
end Go.Proofs.YtbccbokjecdaaaaGreat

namespace Go.Proofs.YtbccbokjecdaaaaGreat
open Go.RowKit

/-- Some test kills the mutant; and those that none kills. -/
def alB (p : List Ln) (ts : List Tst) (m : Ed) : Bool := decide (0 < (brkO p [m] ts).length)
def aliveM (p : List Ln) (ts : List Tst) : List Ed := keepE (alB p ts) (mutM p p.length)
def aliveO (p : List Ln) (ts : List Tst) : List Ed := ifOK (chkT p ts) (aliveM p ts)

set_option maxHeartbeats 4000000 in
theorem aliveF_any (p : List Ln) (ts : List Tst) (pv tv : Value) (c1 c2 : Nat) (W0 : World) (hp : LinesAt W0 pv p) (ht : TestsAt W0 tv ts) (h1 : W0.heap[c1]? = some (.cells #[pv] 22 (0, 0))) (h2 : W0.heap[c2]? = some (.cells #[tv] 23 (0, 0))) :
    PredV 70 #[.pointer (some ⟨c1, 0, none⟩), .pointer (some ⟨c2, 0, none⟩)] (alB p ts) (Grow W0) := by
  intro t op d a b X hX R hR
  have HP := Lib.hid (hp.grow hX)
  have HT := Lib.hid (ht.grow hX)
  have H1 := Lib.hid (hX.blk h1)
  have H2 := Lib.hid (hX.blk h2)
  obtain ⟨n, hn⟩ : ∃ n, (brkO p [⟨t, ⟨op, d, a, b⟩⟩] ts).length = n := ⟨_, rfl⟩
  rw [show alB p ts ⟨t, ⟨op, d, a, b⟩⟩ = decide (0 < (brkO p [⟨t, ⟨op, d, a, b⟩⟩] ts).length) from rfl, hn] at hR
  have HN := Lib.hid hn
  have HR := Lib.hid hR
  obtain ⟨pa, pc, rfl, _⟩ := hp
  obtain ⟨⟨ta, tc, rfl, _⟩, _⟩ := ht
  have e1 := box1 H1.out
  have e2 := box1 H2.out
  have z1 := lt_of_block H1.out
  have z2 := lt_of_block H2.out
  clear hR hn h1 h2 hX
  rw [show (#[Value.agg #[.int .i64 t, .int .i64 op, .int .i64 d, .int .i64 a, .int .i64 b]] ++ #[Value.pointer (some ⟨c1, 0, none⟩), Value.pointer (some ⟨c2, 0, none⟩)]) = #[Value.agg #[.int .i64 t, .int .i64 op, .int .i64 d, .int .i64 a, .int .i64 b], Value.pointer (some ⟨c1, 0, none⟩), Value.pointer (some ⟨c2, 0, none⟩)] from rfl]
  have hgb := (Grow.refl X).alloc (.cells #[.int .i64 t, .int .i64 op, .int .i64 d, .int .i64 a, .int .i64 b] 27)
  have HGB := Lib.hid hgb
  clear hgb
  go_enter Tryz.func70, Tryz.ntmps70
  go_wp2_with fail
  refine kills_any p ts t op d a b _ _ _ (HP.out.grow HGB.out) (HT.out.grow HGB.out) _ ?_
  intro w1 v1 hg1 hv1
  obtain ⟨a1, k1, rfl, _⟩ := hv1
  rw [HN.out]
  have HF := Lib.hid (HR.out w1 (HGB.out.trans hg1))
  clear hg1
  by_cases h0 : 0 < n
  · have t1 : (n : Int) > 0 := by omega
    have hd : decide (0 < n) = true := decide_eq_true h0
    rw [hd] at HF
    clear hd h0
    go_wp2_with fail
    first | exact HF.out | (have hd : decide ((n : Int) > 0) = true := decide_eq_true t1; rw [hd]; exact HF.out) | (have hd : decide (0 < n) = true := decide_eq_true (by omega); rw [hd]; exact HF.out)
  · have hn0 : n = 0 := by omega
    subst hn0
    have hd : decide (0 < 0) = false := rfl
    rw [hd] at HF
    clear h0 hd
    go_wp2_with fail
    exact HF.out

set_option maxHeartbeats 2000000 in
theorem deleteFV_none (f : Nat) (cb : Array Value) (eg : Enters Tryz.prog f) (pr : Ed → Bool) (Inv : World → Prop) (hI : ∀ W W', Inv W → Grow W W' → Inv W') (hp : PredV f cb pr Inv) (w : World) (hi : Inv w) (R : Ending → World → Prop) (hR : ∀ w', Grow w w' → R (.returned (.slice none 0 0)) w') :
    Calls Tryz.prog 69 #[.slice none 0 0, .func (.func f) #[] cb] w R := by
  have HR := Lib.hid hR
  have HI := Lib.hid hI
  have HP := Lib.hid hp
  have HI0 := Lib.hid hi
  have EG := Lib.hid eg
  unfold Enters at eg
  clear hR hI hp hi
  go_enter Tryz.func69, Tryz.ntmps69
  go_wp2_with fail
  refine indexFV_any f cb EG.out pr Inv HI.out HP.out [] _ _ (SlcAt.nil _ _ _) HI0.out _ ?_ ?_
  · intro w1 k x hg1 hx _ _
    simp at hx
  · intro w1 hg1 _
    have HF := Lib.hid (HR.out w1 hg1)
    clear hg1
    go_wp2_with fail
    exact HF.out

set_option maxHeartbeats 4000000 in
theorem deleteAlive_any (p : List Ln) (ts : List Tst) (pv tv v : Value) (c1 c2 : Nat) (W0 w : World) (hp : LinesAt W0 pv p) (ht : TestsAt W0 tv ts) (h1 : W0.heap[c1]? = some (.cells #[pv] 22 (0, 0))) (h2 : W0.heap[c2]? = some (.cells #[tv] 23 (0, 0))) (hg0 : Grow W0 w) (M : List Ed) (hv : OwnE W0.heap.size w v M) (R : Ending → World → Prop)
    (hR : ∀ w' v', Grow W0 w' → EditsAt w' v' (keepE (alB p ts) M) → R (.returned v') w') :
    Calls Tryz.prog 69 #[v, .func (.func 70) #[] #[.pointer (some ⟨c1, 0, none⟩), .pointer (some ⟨c2, 0, none⟩)]] w R := by
  have eg : Enters Tryz.prog 70 := enters_of Tryz.func70 (by kernel_rfl) rfl
  have hpr := aliveF_any p ts pv tv c1 c2 W0 hp ht h1 h2
  rcases hv with ⟨rfl, rfl⟩ | ⟨g, cap, rfl, hB, hg, hcap, hm, hrow⟩
  · exact deleteFV_none _ _ eg _ (Grow W0) (fun _ _ h k => h.trans k) hpr w hg0 R fun w' hg => hR w' _ (hg0.trans hg) (SlcAt.nil _ _ _)
  · refine deleteFV_any _ _ eg _ (Grow W0) (fun _ _ h k => h.trans k) hpr M g M.length cap W0.heap.size (fun W k e h => below_storeE e h hB) w rfl hcap hm hrow hg hB hg0 R ?_
    intro w' hb' hg' hr'
    have hle : (keepE (alB p ts) M).length ≤ M.length := List.length_filter_le _ _
    exact hR w' _ (Below.trans hg0 hb') (hr'.slc hg' (Nat.le_trans hle hcap) hm)

set_option maxHeartbeats 4000000 in
theorem Alive_any (p : List Ln) (ts : List Tst) (pv tv : Value) (w : World) (hp : LinesAt w pv p) (ht : TestsAt w tv ts) (R : Ending → World → Prop)
    (hR : ∀ w' v, Grow w w' → EditsAt w' v (aliveO p ts) → R (.returned (.tuple #[v, .int .i64 (chkT p ts)])) w') :
    Calls Tryz.prog 23 #[pv, tv] w R := by
  have HP := Lib.hid hp
  have HT := Lib.hid ht
  rw [show aliveO p ts = ifOK (chkT p ts) (aliveM p ts) from rfl] at hR
  have HR := Lib.hid hR
  obtain ⟨e, he⟩ : ∃ e, chkT p ts = e := ⟨_, rfl⟩
  have hok := fun h : e = 0 => chkT_ok.1 (he.trans h)
  rw [he] at HR
  have HE := Lib.hid he
  obtain ⟨pa, pc, rfl, _⟩ := hp
  obtain ⟨⟨ta, tc, rfl, _⟩, _⟩ := ht
  clear hR he
  have hb1 := heap_alloc_new w (.cells #[.slice pa p.length pc] 22)
  have hb2 := heap_alloc_new (w.alloc (.cells #[.slice pa p.length pc] 22)) (.cells #[.slice ta ts.length tc] 23)
  have hg1 := (Grow.refl w).alloc (.cells #[.slice pa p.length pc] 22)
  have hg2 := (Grow.refl (w.alloc (.cells #[.slice pa p.length pc] 22))).alloc (.cells #[.slice ta ts.length tc] 23)
  have hsz : (w.alloc (.cells #[.slice pa p.length pc] 22)).heap.size = w.heap.size + 1 := by simp
  go_enter Tryz.func23, Tryz.ntmps23
  go_wp2_with fail
  rw [hsz] at hb2
  have hb1' := hg2.blk hb1
  have hgw := hg1.trans hg2
  generalize (w.alloc (.cells #[.slice pa p.length pc] 22)).alloc (.cells #[.slice ta ts.length tc] 23) = W at hb1' hb2 hgw ⊢
  clear hb1 hg1 hg2 hsz
  have HB1 := Lib.hid hb1'
  have HB2 := Lib.hid hb2
  have HG := Lib.hid hgw
  have e1 := box1 hb1'
  have e2 := box1 hb2
  have z1 := lt_of_block hb1'
  have z2 := lt_of_block hb2
  clear hb1' hb2 hgw
  go_wp2_with fail
  refine programs_any p ts _ _ _ (HP.out.grow HG.out) (HT.out.grow HG.out) _ ?_
  intro w1 hg1
  rw [HE.out]
  have f1 := box1 (hg1.blk HB1.out)
  have f2 := box1 (hg1.blk HB2.out)
  have y1 := lt_of_block (hg1.blk HB1.out)
  have y2 := lt_of_block (hg1.blk HB2.out)
  have HG1 := Lib.hid hg1
  clear hg1 e1 e2 z1 z2
  by_cases h0 : e = 0
  rotate_left
  · rw [ifOK_err h0] at HR
    have t1 : (e != 0) = true := by simpa using h0
    have HF := Lib.hid (HR.out w1 (.slice none 0 0) (HG.out.trans HG1.out) (SlcAt.nil _ _ _))
    clear h0 hok
    go_wp2_with fail
    exact HF.out
  obtain ⟨hv, hvt⟩ := hok h0
  subst h0
  rw [ifOK_ok] at HR
  have HV := Lib.hid hv
  clear hok hv hvt
  go_wp2_with fail
  refine mutants_any p _ _ (HP.out.grow (HG.out.trans HG1.out)) HV.out _ ?_
  intro w2 v2 hg2 hv2
  have hv3 : OwnE W.heap.size w2 v2 (mutM p p.length) := by
    rcases hv2 with h | ⟨g, cap, hv, hB, hg, hr⟩
    · exact .inl h
    · exact .inr ⟨g, cap, hv, Nat.le_trans HG1.out.sz hB, hg, hr⟩
  have HV3 := Lib.hid hv3
  have HG2 := Lib.hid (HG1.out.trans hg2)
  clear hg2 hv2 hv3
  go_wp2_with fail
  refine deleteAlive_any p ts _ _ v2 w.heap.size (w.heap.size + 1) W w2 (HP.out.grow HG.out) (HT.out.grow HG.out) HB1.out HB2.out HG2.out _ HV3.out _ ?_
  intro w3 v3 hg3 hv3
  have HF := Lib.hid (HR.out w3 v3 (HG.out.trans hg3) hv3)
  clear hg3 hv3
  go_wp2_with fail
  exact HF.out
end Go.Proofs.YtbccbokjecdaaaaGreat

namespace Go.Proofs.YtbccbokjecdaaaaGreat
open Go.RowKit

theorem ofInt_nat (a : Nat) : BitVec.ofInt IntKind.i64.bits (a : Int) = BitVec.ofNat 64 a := BitVec.ofInt_natCast 64 a
theorem bits_and (a b : Nat) (ha : a < 9223372036854775808) (hb : b < 9223372036854775808) : bits .and .i64 (a : Int) (b : Int) = ((a &&& b : Nat) : Int) := by
  unfold bits
  rw [ofInt_nat, ofInt_nat]
  show IntKind.i64.wrap (((BitVec.ofNat 64 a &&& BitVec.ofNat 64 b).toNat : Nat) : Int) = _
  rw [BitVec.toNat_and, BitVec.toNat_ofNat, BitVec.toNat_ofNat, Nat.mod_eq_of_lt (by omega), Nat.mod_eq_of_lt (by omega)]
  have : a &&& b ≤ a := Nat.and_le_left
  exact IntWalk.i64_in _ (by omega)
theorem bits_or (a b : Nat) (ha : a < 256) (hb : b < 256) : bits .or .i64 (a : Int) (b : Int) = ((a ||| b : Nat) : Int) := by
  unfold bits
  rw [ofInt_nat, ofInt_nat]
  show IntKind.i64.wrap (((BitVec.ofNat 64 a ||| BitVec.ofNat 64 b).toNat : Nat) : Int) = _
  rw [BitVec.toNat_or, BitVec.toNat_ofNat, BitVec.toNat_ofNat, Nat.mod_eq_of_lt (by omega), Nat.mod_eq_of_lt (by omega)]
  have : a ||| b < 2 ^ 8 := Nat.or_lt_two_pow (by omega) (by omega)
  exact IntWalk.i64_in _ (by omega)
theorem bits_digit (s k : Nat) (hs : s < 256) : bits .and .i64 ((s : Int) / 2 ^ k) 1 = if s.testBit k then 1 else 0 := by
  have e1 : (s : Int) / 2 ^ k = ((s / 2 ^ k : Nat) : Int) := by rw [Int.natCast_ediv, Int.natCast_pow]; rfl
  have e2 : (1 : Int) = ((1 : Nat) : Int) := rfl
  have hle : s / 2 ^ k ≤ s := Nat.div_le_self _ _
  rw [e1]
  conv => lhs; rw [e2]
  rw [bits_and _ _ (by omega) (by omega), Nat.and_one_is_mod, Nat.testBit_eq_decide_div_mod_eq]
  have := Nat.mod_two_eq_zero_or_one (s / 2 ^ k)
  rcases this with h | h <;> rw [h] <;> rfl
/-- A list of numbers from 0 to 7 as a set. -/
def maskN (l : List Int) : Nat := l.foldl (fun (s : Nat) (i : Int) => s ||| 2 ^ i.toNat) 0
theorem maskN_snoc (l : List Int) (i : Int) : maskN (l ++ [i]) = maskN l ||| 2 ^ i.toNat := by unfold maskN; rw [List.foldl_append]; rfl
theorem mask_take {l : List Int} {k : Nat} {i : Int} (h : l[k]? = some i) : maskN (l.take (k + 1)) = maskN (l.take k) ||| 2 ^ i.toNat := by
  rw [List.take_add_one, h]; exact maskN_snoc _ _
theorem mask_bit_aux (l : List Int) (j : Nat) : ∀ s : Nat, (l.foldl (fun (s : Nat) (i : Int) => s ||| 2 ^ i.toNat) s).testBit j = (s.testBit j || l.any fun i => decide (i.toNat = j)) := by
  induction l with
  | nil => intro s; simp
  | cons x r ih => intro s; rw [List.foldl_cons, ih, List.any_cons, Nat.testBit_or, Nat.testBit_two_pow, Bool.or_assoc]
theorem mask_bit (l : List Int) (j : Nat) : (maskN l).testBit j = l.any fun i => decide (i.toNat = j) := by
  unfold maskN; rw [mask_bit_aux]; simp
theorem pow_lt8 {i : Nat} (h : i < 8) : 2 ^ i < 256 := Nat.pow_lt_pow_right (by decide) h
theorem mask_lt {l : List Int} (h : ∀ i ∈ l, i.toNat < 8) : maskN l < 256 := by
  have : ∀ (l : List Int) (s : Nat), s < 2 ^ 8 → (∀ i ∈ l, i.toNat < 8) → l.foldl (fun (s : Nat) (i : Int) => s ||| 2 ^ i.toNat) s < 2 ^ 8 := by
    intro l
    induction l with
    | nil => intro s hs _; exact hs
    | cons x r ih => intro s hs h; rw [List.foldl_cons]; exact ih _ (Nat.or_lt_two_pow hs (pow_lt8 (h x (by simp)))) fun i hi => h i (by simp [hi])
  exact this l 0 (by decide) h
theorem mask_zero {l : List Int} : maskN l = 0 ↔ l = [] := by
  constructor
  · intro h
    cases l with
    | nil => rfl
    | cons x r =>
      have := mask_bit (x :: r) x.toNat
      rw [h, List.any_cons] at this
      simp at this
  · rintro rfl; rfl
theorem and_zero {a b : Nat} : a &&& b = 0 ↔ ∀ j, ¬ (a.testBit j = true ∧ b.testBit j = true) := by
  constructor
  · intro h j hj
    have := Nat.testBit_and a b j
    rw [h, hj.1, hj.2] at this
    simp at this
  · intro h
    refine Nat.eq_of_testBit_eq fun j => ?_
    rw [Nat.testBit_and, Nat.zero_testBit]
    cases h1 : a.testBit j <;> cases h2 : b.testBit j <;> simp
    exact h j ⟨h1, h2⟩
/-- A set of tests has one of each list. -/
def hasB (s : Nat) (l : List Int) : Bool := l.any fun i => s.testBit i.toNat
def covB (who : List (List Int)) (s : Nat) : Bool := who.all (hasB s)
def misB (s x : Nat) : Bool := decide (x &&& s = 0)
theorem misB_mask (l : List Int) (s : Nat) : misB s (maskN l) = !hasB s l := by
  have : misB s (maskN l) = true ↔ ¬ hasB s l = true := by
    unfold misB hasB
    rw [decide_eq_true_eq, and_zero, List.any_eq_true]
    constructor
    · rintro h ⟨i, hi, hs⟩
      exact h i.toNat ⟨by rw [mask_bit]; exact List.any_eq_true.2 ⟨i, hi, by simp⟩, hs⟩
    · rintro h j ⟨h1, h2⟩
      rw [mask_bit, List.any_eq_true] at h1
      obtain ⟨i, hi, hij⟩ := h1
      have := of_decide_eq_true hij
      subst this
      exact h ⟨i, hi, h2⟩
  cases h1 : misB s (maskN l) <;> cases h2 : hasB s l <;> simp_all
/-- The numbers of a set. -/
def bitsL (n s : Nat) : List Int := (List.range n).filterMap fun i : Nat => if s.testBit i then some (i : Int) else none
theorem bitsL_succ (n s : Nat) : bitsL (n + 1) s = bitsL n s ++ if s.testBit n then [(n : Int)] else [] := by
  unfold bitsL
  rw [List.range_succ, List.filterMap_append]
  simp only [List.filterMap_cons, List.filterMap_nil]
  cases s.testBit n <;> rfl
theorem bitsL_len (n s : Nat) : (bitsL n s).length ≤ n := by
  unfold bitsL; refine Nat.le_trans (List.length_filterMap_le _ _) ?_; simp
theorem mem_bitsL {n s : Nat} {i : Int} : i ∈ bitsL n s ↔ ∃ k : Nat, k < n ∧ i = k ∧ s.testBit k = true := by
  unfold bitsL
  rw [List.mem_filterMap]
  constructor
  · rintro ⟨k, hk, h⟩
    split at h
    · next hb => cases h; exact ⟨k, List.mem_range.1 hk, rfl, hb⟩
    · cases h
  · rintro ⟨k, hk, rfl, hb⟩
    exact ⟨k, List.mem_range.2 hk, by rw [if_pos hb]⟩
/-- The best set so far, step by step. -/
def lessL (a b : List Int) : Bool := decide (a.length < b.length) || (decide (a.length = b.length) && ltIs a b)
def stepB (n : Nat) (who : List (List Int)) (st : List Int × Bool) (s : Nat) : List Int × Bool := if covB who s && (!st.2 || lessL (bitsL n s) st.1) then (bitsL n s, true) else st
def bestN (n : Nat) (who : List (List Int)) (k : Nat) : List Int × Bool := (List.range k).foldl (stepB n who) ([], false)
theorem bestN_succ (n : Nat) (who : List (List Int)) (k : Nat) : bestN n who (k + 1) = stepB n who (bestN n who k) k := by
  unfold bestN; rw [List.range_succ, List.foldl_append]; rfl
/-- The lists of tests that kill the mutants which some test kills. -/
def killL (p : List Ln) (ts : List Tst) : List (List Int) := ((mutM p p.length).map fun m => brkO p [m] ts).filter fun l => !l.isEmpty
def killN (p : List Ln) (ts : List Tst) (M : List Ed) (k : Nat) : List (List Int) := ((M.take k).map fun m => brkO p [m] ts).filter fun l => !l.isEmpty
theorem killN_succ {p : List Ln} {ts : List Tst} {M : List Ed} {k : Nat} {m : Ed} (h : M[k]? = some m) : killN p ts M (k + 1) = killN p ts M k ++ if (brkO p [m] ts).length = 0 then [] else [brkO p [m] ts] := by
  unfold killN
  rw [List.take_add_one, h, List.map_append, List.filter_append]
  congr 1
  cases hb : brkO p [m] ts <;> simp [hb]
theorem killN_all (p : List Ln) (ts : List Tst) : killN p ts (mutM p p.length) (mutM p p.length).length = killL p ts := by unfold killN killL; rw [List.take_length]
def enM (p : List Ln) (ts : List Tst) : List Int := (bestN ts.length (killL p ts) (2 ^ ts.length)).1
def enO (p : List Ln) (ts : List Tst) : List Int := ifOK (chkT p ts) (enM p ts)
theorem brkO_mem {p : List Ln} {x : List Ed} {ts : List Tst} {i : Int} (h : i ∈ brkO p x ts) : 0 ≤ i ∧ i.toNat < ts.length := by
  unfold brkO at h
  by_cases hc : chkX p x ts = 0
  · rw [hc, ifOK_ok] at h
    obtain ⟨k, t, rfl, ht, _⟩ := mem_whereL.1 h
    have := (List.getElem?_eq_some_iff.1 ht).1
    exact ⟨by omega, by omega⟩
  · rw [ifOK_err hc] at h; cases h
theorem bestN_found {n : Nat} {who : List (List Int)} {k : Nat} : (bestN n who k).2 = true ∨ (∀ s, s < k → covB who s = false) ∧ bestN n who k = ([], false) := by
  induction k with
  | zero => exact .inr ⟨fun s hs => by omega, rfl⟩
  | succ k ih =>
    rw [bestN_succ]
    unfold stepB
    rcases ih with h | ⟨h1, h2⟩
    · left
      split
      · rfl
      · exact h
    · rw [h2]
      cases hc : covB who k with
      | true => left; simp
      | false =>
        right
        refine ⟨fun s hs => ?_, by simp⟩
        by_cases hsk : s = k
        · subst hsk; exact hc
        · exact h1 s (by omega)
theorem bestN_is {n : Nat} {who : List (List Int)} {k : Nat} (h : (bestN n who k).2 = true) : ∃ s, s < k ∧ covB who s = true ∧ (bestN n who k).1 = bitsL n s := by
  induction k with
  | zero => cases h
  | succ k ih =>
    rw [bestN_succ] at h ⊢
    unfold stepB at h ⊢
    split
    · next hc => rw [Bool.and_eq_true] at hc; exact ⟨k, by omega, hc.1, rfl⟩
    · next hc =>
      rw [if_neg hc] at h
      obtain ⟨s, hs, h1, h2⟩ := ih h
      exact ⟨s, by omega, h1, h2⟩
/-- The set of all tests has one of each list of kills. -/
theorem cov_all {p : List Ln} {ts : List Tst} : covB (killL p ts) (2 ^ ts.length - 1) = true := by
  unfold covB
  rw [List.all_eq_true]
  intro l hl
  unfold killL at hl
  rw [List.mem_filter, List.mem_map] at hl
  obtain ⟨⟨m, _, rfl⟩, hne⟩ := hl
  unfold hasB
  rw [List.any_eq_true]
  cases hb : brkO p [m] ts with
  | nil => rw [hb] at hne; simp at hne
  | cons i r =>
    have := brkO_mem (p := p) (x := [m]) (ts := ts) (i := i) (by rw [hb]; simp)
    exact ⟨i, by simp, by rw [Nat.testBit_two_pow_sub_one]; exact decide_eq_true this.2⟩
theorem enM_is (p : List Ln) (ts : List Tst) : ∃ s, covB (killL p ts) s = true ∧ enM p ts = bitsL ts.length s := by
  have hf : (bestN ts.length (killL p ts) (2 ^ ts.length)).2 = true := by
    rcases bestN_found (n := ts.length) (who := killL p ts) (k := 2 ^ ts.length) with h | ⟨h, _⟩
    · exact h
    · have := h (2 ^ ts.length - 1) (by have := Nat.two_pow_pos ts.length; omega)
      rw [cov_all] at this; cases this
  obtain ⟨s, _, h1, h2⟩ := bestN_is hf
  exact ⟨s, h1, h2⟩
/-- The tests at some places. -/
def fewT (ts : List Tst) (l : List Int) : List Tst := l.filterMap fun i => ts[i.toNat]?
theorem fewT_snoc {ts : List Tst} {l : List Int} {k : Nat} {i : Int} {t : Tst} (h : l[k]? = some i) (ht : ts[i.toNat]? = some t) : fewT ts (l.take (k + 1)) = fewT ts (l.take k) ++ [t] := by
  unfold fewT
  rw [List.take_add_one, h, List.filterMap_append]
  simp [ht]
theorem enM_mem {p : List Ln} {ts : List Tst} {i : Int} (h : i ∈ enM p ts) : 0 ≤ i ∧ i.toNat < ts.length := by
  obtain ⟨s, _, hs⟩ := enM_is p ts
  rw [hs] at h
  obtain ⟨k, hk, rfl, _⟩ := mem_bitsL.1 h
  exact ⟨by omega, by omega⟩
theorem enM_len (p : List Ln) (ts : List Tst) : (enM p ts).length ≤ ts.length := by
  obtain ⟨s, _, hs⟩ := enM_is p ts
  rw [hs]; exact bitsL_len _ _
theorem few_valid {p : List Ln} {ts : List Tst} (ht : valT ts = 0) : valT (fewT ts (enM p ts)) = 0 := by
  obtain ⟨h1, h2⟩ := valT_ok.1 ht
  refine valT_ok.2 ⟨?_, fun t hm => ?_⟩
  · have h3 : (fewT ts (enM p ts)).length ≤ (enM p ts).length := List.length_filterMap_le _ _
    have := enM_len p ts; omega
  · unfold fewT at hm
    obtain ⟨i, _, hi⟩ := List.mem_filterMap.1 hm
    exact h2 t (List.mem_of_getElem? hi)
/-- With these tests the same mutants stay alive. -/
theorem few_alive {p : List Ln} {ts : List Tst} (hp : valP p = 0) (ht : valT ts = 0) : aliveM p (fewT ts (enM p ts)) = aliveM p ts := by
  obtain ⟨s, hc, hs⟩ := enM_is p ts
  unfold aliveM keepE
  refine List.filter_congr fun m hm => ?_
  obtain ⟨_, _, _, _, h1⟩ := mutM_kil (ts := ts) hp ht hm
  obtain ⟨_, _, _, _, h2⟩ := mutM_kil (ts := fewT ts (enM p ts)) hp (few_valid ht) hm
  congr 1
  unfold alB
  rw [decide_eq_decide, h1, h2]
  have hpos : ∀ ts' : List Tst, 0 < (brkM p (setAll p [m]) ts').length ↔ ∃ t ∈ ts', brkF p (setAll p [m]) t = true := by
    intro ts'
    rw [brkM_eq, List.length_pos_iff_exists_mem]
    constructor
    · rintro ⟨i, hi⟩
      obtain ⟨k, t, _, hk, hf⟩ := mem_whereL.1 hi
      exact ⟨t, List.mem_of_getElem? hk, hf⟩
    · rintro ⟨t, hmt, hf⟩
      obtain ⟨k, hk⟩ := List.getElem?_of_mem hmt
      exact ⟨k, mem_whereL.2 ⟨k, t, rfl, hk, hf⟩⟩
  constructor
  · intro h
    obtain ⟨t, hmt, hf⟩ := (hpos _).1 h
    unfold fewT at hmt
    obtain ⟨i, _, hi⟩ := List.mem_filterMap.1 hmt
    exact (hpos _).2 ⟨t, List.mem_of_getElem? hi, hf⟩
  · intro h
    have hmem : brkO p [m] ts ∈ killL p ts := by
      unfold killL
      refine List.mem_filter.2 ⟨List.mem_map.2 ⟨m, hm, rfl⟩, ?_⟩
      rw [h1]
      cases hb : brkM p (setAll p [m]) ts with
      | nil => rw [hb] at h; simp at h
      | cons _ _ => rfl
    have hcov := List.all_eq_true.1 hc _ hmem
    unfold hasB at hcov
    obtain ⟨i, hi, hbit⟩ := List.any_eq_true.1 hcov
    obtain ⟨hi0, hil⟩ := brkO_mem hi
    rw [h1, brkM_eq] at hi
    obtain ⟨k, t, hik, hk, hf⟩ := mem_whereL.1 hi
    subst hik
    refine (hpos _).2 ⟨t, ?_, hf⟩
    unfold fewT
    rw [List.mem_filterMap]
    refine ⟨(k : Int), ?_, by simpa using hk⟩
    rw [hs, mem_bitsL]
    exact ⟨k, by omega, rfl, by simpa using hbit⟩
end Go.Proofs.YtbccbokjecdaaaaGreat

namespace Go.Proofs.YtbccbokjecdaaaaGreat
open Go.RowKit

set_option maxHeartbeats 4000000 in
theorem rBefore5_any (xs ys : List Int) (v u : Value) (w : World) (hx : IntsAt w v xs) (hy : IntsAt w u ys) (R : Ending → World → Prop)
    (hR : ∀ w', Grow w w' → R (.returned (.bool (ltIs xs ys))) w') :
    Calls Tryz.prog 75 #[v, u] w R := by
  have HX := Lib.hid hx
  have HY := Lib.hid hy
  have HR := Lib.hid hR
  obtain ⟨xa, xc, rfl, x1, x2, jk1⟩ := hx
  obtain ⟨ya, yc, rfl, y1, y2, jk2⟩ := hy
  clear hR jk1 jk2
  go_enter Tryz.func75, Tryz.ntmps75
  go_wp2_with fail
  go_loopw [5] (fun i wr => ∃ k : Nat, k ≤ xs.length ∧ k ≤ ys.length ∧ i = .int .i64 k ∧ Grow w wr ∧ ltIs xs ys = ltIs (xs.drop k) (ys.drop k)) (fun i _ => xs.length - (intOf i).toNat)
  case atStart => exact ⟨0, Nat.zero_le _, Nat.zero_le _, rfl, Grow.refl _, rfl⟩
  case round =>
    obtain ⟨k, hkx, hky, rfl, hg, hq⟩ := hrel
    have HQ := Lib.hid hq
    have HG := Lib.hid hg
    clear hq hg
    by_cases hlx : k < xs.length
    · obtain ⟨x, hx⟩ : ∃ x, xs[k]? = some x := ⟨_, List.getElem?_eq_getElem hlx⟩
      obtain ⟨gb, o, rfl, hb, e0⟩ := ints_at (HX.out.grow HG.out) hx
      have hlx2 : (k : Int) < (xs.length : Int) := by omega
      have HDX := Lib.hid (drop_cons hx)
      clear hx
      by_cases hly : k < ys.length
      · obtain ⟨y, hy⟩ : ∃ y, ys[k]? = some y := ⟨_, List.getElem?_eq_getElem hly⟩
        obtain ⟨gb2, o2, rfl, hb2, f0⟩ := ints_at (HY.out.grow HG.out) hy
        have hly2 : (k : Int) < (ys.length : Int) := by omega
        have hk0 : (0 : Int) ≤ (k : Int) := by omega
        have hq2 := HQ.out
        rw [HDX.out, drop_cons hy] at hq2
        rw [ltIs_cons] at hq2
        clear hy
        by_cases hxy : x = y
        · rw [if_pos hxy] at hq2
          have HQ3 := Lib.hid hq2
          subst hxy
          clear hq2
          go_wp2_with (go_quiet (fail))
          go_roundw
          case rel => exact ⟨k + 1, by omega, by omega, by go_num, HG.out.drewN _, HQ3.out⟩
          case measure => simp [intOf]; omega
        · rw [if_neg hxy] at hq2
          have HQ3 := Lib.hid hq2
          have t1 : (x == y) = false := by simpa using hxy
          have t2 : (x != y) = true := by simpa using hxy
          clear hq2
          by_cases hl : x < y
          · have HF := Lib.hid (fun q => HR.out _ (HG.out.drewN q))
            have HF2 := Lib.hid (fun q r => HR.out _ ((HG.out.drewN q).drewN r))
            have hd : ltIs xs ys = true := by rw [HQ3.out]; exact decide_eq_true hl
            rw [hd] at HF HF2
            clear hd
            go_wp2_with (go_quiet (fail))
            first | exact HF.out _ | exact HF2.out _ _
          · have HF := Lib.hid (fun q => HR.out _ (HG.out.drewN q))
            have HF2 := Lib.hid (fun q r => HR.out _ ((HG.out.drewN q).drewN r))
            have hd : ltIs xs ys = false := by rw [HQ3.out]; exact decide_eq_false hl
            rw [hd] at HF HF2
            clear hd
            go_wp2_with (go_quiet (fail))
            first | exact HF.out _ | exact HF2.out _ _
      · have hly3 : ¬ (k : Int) < (ys.length : Int) := by omega
        have hq2 := HQ.out
        rw [HDX.out, List.drop_eq_nil_of_le (show ys.length ≤ k by omega)] at hq2
        have hr := HR.out _ HG.out
        rw [hq2] at hr
        have HF := Lib.hid (show R (.returned (.bool false)) wr from hr)
        have hly4 : ¬ (xs.length : Int) < (ys.length : Int) := by omega
        clear hq2 hr
        go_wp2_with fail
        exact HF.out
    · have hq2 := HQ.out
      have hlx2 : ¬ (k : Int) < (xs.length : Int) := by omega
      rw [List.drop_eq_nil_of_le (show xs.length ≤ k by omega)] at hq2
      by_cases hly : k < ys.length
      · obtain ⟨y, hy⟩ : ∃ y, ys[k]? = some y := ⟨_, List.getElem?_eq_getElem hly⟩
        rw [drop_cons hy] at hq2
        have hr := HR.out _ HG.out
        rw [hq2] at hr
        have HF := Lib.hid (show R (.returned (.bool true)) wr from hr)
        have hly3 : (xs.length : Int) < (ys.length : Int) := by omega
        clear hq2 hr hy
        go_wp2_with fail
        exact HF.out
      · rw [List.drop_eq_nil_of_le (show ys.length ≤ k by omega)] at hq2
        have hr := HR.out _ HG.out
        rw [hq2] at hr
        have HF := Lib.hid (show R (.returned (.bool false)) wr from hr)
        have hly3 : ¬ (xs.length : Int) < (ys.length : Int) := by omega
        clear hq2 hr
        go_wp2_with fail
        exact HF.out

/-- A set of tests in a box. -/
def SInv (cb s : Nat) (X : World) : Prop := X.heap[cb]? = some (.cells #[.int .i64 (s : Int)] 3 (0, 0))
def misI (s : Nat) (x : Int) : Bool := decide (bits .and .i64 x (s : Int) = 0)
theorem misI_nat (s x : Nat) (hx : x < 256) (hs : s < 256) : misI s (x : Int) = misB s x := by
  unfold misI misB
  rw [bits_and x s (by omega) (by omega), decide_eq_decide]
  omega
set_option maxHeartbeats 2000000 in
theorem enF_any (x : Int) (s cb : Nat) (w : World) (hb : SInv cb s w) (R : Ending → World → Prop) (hR : ∀ w', Grow w w' → R (.returned (.bool (misI s x))) w') :
    Calls Tryz.prog 73 #[.int .i64 x, .pointer (some ⟨cb, 0, none⟩)] w R := by
  have e0 := box1 hb
  have hz := lt_of_block hb
  have HF := Lib.hid (hR w (Grow.refl w))
  unfold misI at HF
  obtain ⟨c, hc⟩ : ∃ c, bits .and .i64 x (s : Int) = c := ⟨_, rfl⟩
  rw [hc] at HF
  clear hR hb
  by_cases h0 : c = 0
  · rw [decide_eq_true h0] at HF
    subst h0
    go_enter Tryz.func73, Tryz.ntmps73
    go_wp2_with fail
    exact HF.out
  · rw [decide_eq_false h0] at HF
    have ha3 : (c == 0) = false := beq_eq_false_iff_ne.2 h0
    go_enter Tryz.func73, Tryz.ntmps73
    go_wp2_with fail
    exact HF.out
set_option maxHeartbeats 2000000 in
theorem containsFI_any (f : Nat) (cb : Array Value) (eg : Enters Tryz.prog f) (pr : Int → Bool) (Inv : World → Prop) (hI : ∀ W W', Inv W → Grow W W' → Inv W') (hp : PredW f cb pr Inv) (xs : List Int) (v : Value) (w : World) (hv : IntsAt w v xs) (hi : Inv w) (R : Ending → World → Prop)
    (hR : ∀ w', Grow w w' → R (.returned (.bool (xs.any pr))) w') :
    Calls Tryz.prog 72 #[v, .func (.func f) #[] cb] w R := by
  have HV := Lib.hid hv
  have HR := Lib.hid hR
  obtain ⟨va, vc, rfl, v1, v2, jk⟩ := hv
  clear hR jk
  go_enter Tryz.func72, Tryz.ntmps72
  go_wp2_with fail
  refine indexFI_any f cb eg pr Inv hI hp xs _ _ HV.out hi _ ?_ ?_
  · intro w1 k x hg1 hx hpx _
    have hr := HR.out w1 hg1
    rw [List.any_eq_true.2 ⟨x, List.mem_of_getElem? hx, hpx⟩] at hr
    have HF := Lib.hid hr
    have hk0 : (0 : Int) ≤ (k : Int) := by omega
    clear hr hg1 hx hpx
    go_wp2_with fail
    exact HF.out
  · intro w1 hg1 hno
    have hr := HR.out w1 hg1
    rw [show xs.any pr = false by rw [List.any_eq_false]; intro y hy; rw [hno y hy]; simp] at hr
    have HF := Lib.hid hr
    clear hr hg1 hno
    go_wp2_with fail
    exact HF.out
end Go.Proofs.YtbccbokjecdaaaaGreat

namespace Go.Proofs.YtbccbokjecdaaaaGreat
open Go.RowKit

theorem wrap_pow {i : Nat} (h : i ≤ 8) : IntKind.i64.wrap (1 * 2 ^ i) = ((2 ^ i : Nat) : Int) := by
  have h1 : (2 : Nat) ^ i ≤ 2 ^ 8 := Nat.pow_le_pow_right (by decide) h
  rw [Int.one_mul, show (2 : Int) ^ i = ((2 ^ i : Nat) : Int) by rw [Int.natCast_pow]; rfl]
  generalize 2 ^ i = q at h1 ⊢
  exact IntWalk.i64_in (q : Int) (by omega)
set_option maxRecDepth 100000 in
set_option maxHeartbeats 16000000 in
theorem Enough_any (p : List Ln) (ts : List Tst) (pv tv : Value) (w : World) (hp : LinesAt w pv p) (ht : TestsAt w tv ts) (R : Ending → World → Prop)
    (hR : ∀ w' v, Grow w w' → IntsAt w' v (enO p ts) → R (.returned (.tuple #[v, .int .i64 (chkT p ts)])) w') :
    Calls Tryz.prog 27 #[pv, tv] w R := by
  have HP := Lib.hid hp
  have HT := Lib.hid ht
  rw [show enO p ts = ifOK (chkT p ts) (bestN ts.length (killL p ts) (2 ^ ts.length)).1 from rfl] at hR
  have HR := Lib.hid hR
  obtain ⟨e, he⟩ : ∃ e, chkT p ts = e := ⟨_, rfl⟩
  have hok := fun h : e = 0 => chkT_ok.1 (he.trans h)
  rw [he] at HR
  have HE := Lib.hid he
  obtain ⟨pa, pc, rfl, jk1⟩ := hp
  obtain ⟨⟨ta, tc, rfl, jk2⟩, jk3⟩ := ht
  clear hR he jk1 jk2 jk3
  by_cases h0 : e = 0
  rotate_left
  · rw [ifOK_err h0] at HR
    have t1 : (e != 0) = true := by simpa using h0
    clear hok h0
    go_enter Tryz.func27, Tryz.ntmps27
    go_wp2_with fail
    refine programs_any p ts _ _ _ HP.out HT.out _ ?_
    intro w1 hg1
    rw [HE.out]
    have HF := Lib.hid (HR.out w1 (.slice none 0 0) hg1 (SlcAt.nil _ _ _))
    clear hg1
    go_wp2_with fail
    exact HF.out
  obtain ⟨hv, hvt⟩ := hok h0
  subst h0
  rw [ifOK_ok] at HR
  have hlen := mutM_len hv p.length (Nat.le_refl _)
  have hp8 := (valP_ok.1 hv).1
  have hn8 := (valT_ok.1 hvt).1
  have HV := Lib.hid hv
  have HKL := Lib.hid (killN_all p ts)
  have HBR := Lib.hid (fun (m : Ed) (i : Int) h => brkO_mem (p := p) (x := [m]) (ts := ts) (i := i) h)
  obtain ⟨M, hM⟩ : ∃ M, mutM p p.length = M := ⟨_, rfl⟩
  rw [hM] at hlen HKL
  have HM := Lib.hid hM
  have hM8 : M.length ≤ 8000 := by omega
  obtain ⟨n, hn⟩ : ∃ n, ts.length = n := ⟨_, rfl⟩
  rw [hn] at HR hn8 HBR
  have HN := Lib.hid hn
  obtain ⟨K, hK⟩ : ∃ K, killL p ts = K := ⟨_, rfl⟩
  rw [hK] at HR HKL
  have hk8 : ∀ l ∈ K, ∀ i ∈ l, i.toNat < 8 := by
    intro l hl i hi
    rw [← hK] at hl
    unfold killL at hl
    rw [List.mem_filter, List.mem_map] at hl
    obtain ⟨⟨m, _, rfl⟩, _⟩ := hl
    have := (brkO_mem hi).2
    omega
  have HK8 := Lib.hid hk8
  clear hok hv hvt hM hlen hn hK hk8
  go_enter Tryz.func27, Tryz.ntmps27
  go_wp2_with fail
  refine programs_any p ts _ _ _ HP.out HT.out _ ?_
  intro w1 hg1
  rw [HE.out]
  have HG1 := Lib.hid hg1
  clear hg1
  go_wp2_with fail
  refine mutants_any p _ _ (HP.out.grow HG1.out) HV.out _ ?_
  intro w2 v2 hg2 hv2
  rw [HM.out] at hv2
  have HX2 := Lib.hid hv2.edits
  obtain ⟨a2, c2, rfl, r1, r2, jk4⟩ := hv2.edits
  have HG2 := Lib.hid (HG1.out.trans hg2)
  clear hg2 jk4 hv2
  go_wp2_with fail
  go_loopw [7, 27] (fun out i wr => ∃ k : Nat, k ≤ M.length ∧ i = .int .i64 k ∧ Grow w2 wr ∧ wr.ownsRow w2.heap.size 3 1 out ((killN p ts M k).map fun l => (maskN l : Int)).length (((killN p ts M k).map fun l => (maskN l : Int)).flatMap encI)) (fun _ i _ => M.length - (intOf i).toNat)
  case atStart => exact ⟨0, Nat.zero_le _, rfl, Grow.refl _, World.ownsRow_nil _ _ _ _⟩
  case round =>
    obtain ⟨k, hk, rfl, hg, how⟩ := hrel
    have HGX := Lib.hid hg
    have HG := Lib.hid (HG2.out.trans hg)
    have HOW := Lib.hid how
    have hzw := hg.sz
    clear hg how
    by_cases hlt : k < M.length
    · obtain ⟨⟨t, op, d, a, b⟩, hx⟩ : ∃ x, M[k]? = some x := ⟨_, List.getElem?_eq_getElem hlt⟩
      obtain ⟨gb, o, rfl, hb, e0, e1, e2, e3, e4⟩ := edits_at (HX2.out.grow HGX.out) hx
      have hlt2 : (k : Int) < (M.length : Int) := by omega
      have HSN := Lib.hid (killN_succ (p := p) (ts := ts) hx)
      have hle : (killN p ts M k).length ≤ k := by
        unfold killN
        refine Nat.le_trans (List.length_filter_le _ _) ?_
        rw [List.length_map, List.length_take]; omega
      have HLB := Lib.hid (show ((killN p ts M k).map fun l => (maskN l : Int)).length < 100000000000 by rw [List.length_map]; omega)
      have HBM := Lib.hid (HBR.out ⟨t, ⟨op, d, a, b⟩⟩)
      obtain ⟨L, hL⟩ : ∃ L, brkO p [⟨t, ⟨op, d, a, b⟩⟩] ts = L := ⟨_, rfl⟩
      rw [hL] at HSN HBM
      have HL := Lib.hid hL
      have hgb2 := (Grow.refl wr).alloc (.cells #[.int .i64 t, .int .i64 op, .int .i64 d, .int .i64 a, .int .i64 b] 27)
      have HGB := Lib.hid hgb2
      clear hx hle hL hgb2
      go_wp2_with fail
      refine kills_any p ts t op d a b _ _ _ (HP.out.grow (HG.out.trans HGB.out)) (HT.out.grow (HG.out.trans HGB.out)) _ ?_
      intro w3 v3 hg3 hv3
      rw [HL.out] at hv3
      have HX3 := Lib.hid hv3
      obtain ⟨a3, c3, rfl, s1, s2, jk5⟩ := hv3
      have HG3 := Lib.hid (HGX.out.trans (HGB.out.trans hg3))
      have HO3 := Lib.hid ((HGB.out.trans hg3).owns HOW.out)
      have hz3 := (HGX.out.trans (HGB.out.trans hg3)).sz
      clear hg3 e0 e1 e2 e3 e4 HOW jk5
      go_wp2_with fail
      obtain ⟨wo, hwo⟩ : ∃ z : World, z = wr := ⟨_, rfl⟩
      clear hwo
      go_loopw [10, 36] (fun s i wr => ∃ j : Nat, j ≤ L.length ∧ i = .int .i64 j ∧ s = .int .i64 (maskN (L.take j) : Int) ∧ wr = w3) (fun _ i _ => L.length - (intOf i).toNat)
      case atStart => exact ⟨0, Nat.zero_le _, rfl, rfl, rfl⟩
      case round =>
        obtain ⟨j, hj, rfl, rfl, rfl⟩ := hrel
        by_cases hjl : j < L.length
        · obtain ⟨i, hi⟩ : ∃ x, L[j]? = some x := ⟨_, List.getElem?_eq_getElem hjl⟩
          obtain ⟨gb3, o3, rfl, hb3, f0⟩ := ints_at HX3.out hi
          have hjl2 : (j : Int) < (L.length : Int) := by omega
          obtain ⟨hi0, hin⟩ := HBM.out i (List.mem_of_getElem? hi)
          obtain ⟨q, rfl⟩ : ∃ q : Nat, i = q := ⟨i.toNat, by omega⟩
          have hq8 : q < 8 := by omega
          have HMT := Lib.hid (mask_take hi)
          have hm1 : maskN (L.take j) < 256 := mask_lt fun i hi => by have := (HBM.out i (List.mem_of_mem_take hi)).2; omega
          have hor := bits_or (maskN (L.take j)) (2 ^ q) hm1 (pow_lt8 hq8)
          have HWP := Lib.hid (wrap_pow (i := q) (by omega))
          have HOR := Lib.hid hor
          have y1 : (0 : Int) ≤ (q : Int) := by omega
          have y2 : (q : Int) ≤ 64 := by omega
          clear hi hor
          go_wp2_with fail
          go_roundw
          case rel =>
            refine ⟨j + 1, by omega, by go_num, ?_, by first | rfl | trivial⟩
            rw [HMT.out]
            have h1 := HWP.out
            rw [IntWalk.i64_left] at h1
            simp only [Int.toNat_natCast] at h1 ⊢
            rw [Int.one_mul] at h1
            rw [← HOR.out, ← h1]
          case measure => simp [intOf]; omega
        · have hjn : j = L.length := by omega
          subst hjn
          have htk : L.take L.length = L := List.take_length
          rw [htk]
          clear hj hjl htk
          by_cases hl0 : L = []
          · have hm0 : maskN L = 0 := mask_zero.2 hl0
            have hll : L.length = 0 := by rw [hl0]; rfl
            have HSE := Lib.hid (show killN p ts M (k + 1) = killN p ts M k by rw [HSN.out, if_pos hll, List.append_nil])
            rw [hm0, hll]
            clear hm0 hll
            go_wp2_with fail
            go_roundw
            case rel => exact ⟨k + 1, by omega, by go_num, HG3.out, by rw [HSE.out]; exact HO3.out⟩
            case measure => simp [intOf]; omega
          · have hm0 : maskN L ≠ 0 := fun h => hl0 (mask_zero.1 h)
            have hll : L.length ≠ 0 := fun h => hl0 (List.length_eq_zero_iff.1 h)
            have HSE := Lib.hid (show killN p ts M (k + 1) = killN p ts M k ++ [L] by rw [HSN.out, if_neg hll])
            have t1 : ((maskN L : Int) != 0) = true := bne_iff_ne.2 (by omega)
            have t2 : ¬ (maskN L : Int) = 0 := by omega
            clear hm0 hl0
            go_wp2_with (at_builtin; refine wpList_app _ rfl (.tmp 47) (.tmp 49) 35 rfl w2.heap.size 3 Tryz.underlying35 info_int rfl (by decide) (by decide) encI encI_len encI_one _ ((killN p ts M k).map fun l => (maskN l : Int)) rfl (((Grow.refl _).alloc _).owns HO3.out) _ (maskN L : Int) 1 rfl (newsG _ _ (by simp) (encI (maskN L : Int)) _) HLB.out (by simp; omega) ?_; intro out2 w5 hown5 hgr5)
            have HG5 := Lib.hid (show Grow w2 w5 from grown_below HO3.out hgr5 (Nat.le_refl _) (by simp; omega) (HG3.out.alloc _))
            have HO5 := Lib.hid hown5
            clear hown5 hgr5
            go_roundw
            case rel => exact ⟨k + 1, by omega, by go_num, HG5.out, by rw [HSE.out, List.map_append]; exact HO5.out⟩
            case measure => simp [intOf]; omega
    · have hkn : k = M.length := by omega
      have HO2 := HOW.out
      rw [hkn, HKL.out] at HO2
      have HND := Lib.hid (slc_of_owns encI_len HO2)
      obtain ⟨an, cn, hvn, n1, n2, jk6⟩ := slc_of_owns encI_len HO2
      subst hvn
      clear HO2 hkn jk6
      have HG6 := Lib.hid HG.out
      have HG7 := Lib.hid HGX.out
      have hpw : IntKind.i64.wrap (1 * 2 ^ n) = ((2 ^ n : Nat) : Int) := wrap_pow hn8
      obtain ⟨N, hNN⟩ : ∃ N, 2 ^ n = N := ⟨_, rfl⟩
      have hN9 : N ≤ 256 := by rw [← hNN]; exact Nat.pow_le_pow_right (by decide) hn8
      rw [hNN] at HR hpw
      have HPW := Lib.hid hpw
      have y1 : (0 : Int) ≤ (n : Int) := by omega
      have y2 : (n : Int) ≤ 64 := by omega
      have hnt : (ts.length : Int) = (n : Int) := by rw [HN.out]
      have HT2 := Lib.hid (HT.out.grow HG.out)
      have HKM := Lib.hid (fun (s : Nat) (hs : s < 256) => show (K.map fun l => (maskN l : Int)).any (misI s) = !covB K s by
        unfold covB
        rw [List.any_map, List.not_all_eq_any_not]
        have hcg : ∀ X : List (List Int), (∀ l ∈ X, ∀ i ∈ l, i.toNat < 8) → X.any (misI s ∘ fun l => ((maskN l : Nat) : Int)) = X.any fun l => !hasB s l := by
          intro X
          induction X with
          | nil => intro _; rfl
          | cons l r ih =>
            intro h
            rw [List.any_cons, List.any_cons, ih fun l hl => h l (by simp [hl])]
            congr 1
            show misI s ((maskN l : Nat) : Int) = _
            rw [misI_nat s _ (mask_lt (h l (by simp))) hs, misB_mask]
        exact hcg K HK8.out)
      have hlt3 : ¬ (k : Int) < (M.length : Int) := by omega
      clear hpw hNN HOW HGX HG hk hzw
      go_wp2_with fail
      have e54 : wrap64 (2 ^ n) = (N : Int) := by have h := HPW.out; rw [Int.one_mul, IntWalk.i64_left] at h; exact h
      rw [e54]
      have hz4 := HG7.out.sz
      obtain ⟨w4, rfl⟩ : ∃ w4 : World, w4 = wr := ⟨_, rfl⟩
      have HEN := Lib.hid (enters_of (P := Tryz.prog) Tryz.func73 (by kernel_rfl) rfl)
      go_loopw [13, 14, 55] (fun bv fv i wr => ∃ s : Nat, s ≤ N ∧ i = .int .i64 s ∧ Grow w4 wr ∧ fv = .bool (bestN n K s).2 ∧ IntsAt wr bv (bestN n K s).1) (fun _ _ i _ => N - (intOf i).toNat)
      case atStart => exact ⟨0, Nat.zero_le _, rfl, Grow.refl _, rfl, SlcAt.nil _ _ _⟩
      case round =>
        obtain ⟨s, hs, rfl, hg, rfl, hbv⟩ := hrel
        have HG8 := Lib.hid hg
        have hzs := hg.sz
        have hsucc := bestN_succ n K s
        have HNS := Lib.hid (fun h : s = N => (congrArg (bestN n K) h))
        obtain ⟨⟨B, f⟩, hst⟩ : ∃ st, bestN n K s = st := ⟨_, rfl⟩
        rw [hst] at hbv hsucc HNS
        have HBV := Lib.hid (show IntsAt wr _ B from hbv)
        have HSU := Lib.hid hsucc
        rw [hst]
        obtain ⟨ba, bc, rfl, b1, b2, jk7⟩ := (show IntsAt wr _ B from hbv)
        clear hbv hst hsucc hg jk7
        dsimp only
        by_cases hsN : s < N
        · have hsN2 : (s : Int) < (N : Int) := by omega
          have hs256 : s < 256 := by omega
          have hbx := heap_alloc_new wr (.cells #[.int .i64 (s : Int)] 3)
          have hgx := (Grow.refl wr).alloc (.cells #[.int .i64 (s : Int)] 3)
          have HBX := Lib.hid hbx
          have HGX := Lib.hid hgx
          clear hbx hgx
          have hpw : PredW 73 #[.pointer (some ⟨wr.heap.size, 0, none⟩)] (misI s) (SInv wr.heap.size s) := by
            intro x X hX R hR
            have e : (#[Value.int .i64 x] ++ #[Value.pointer (some ⟨wr.heap.size, 0, none⟩)] : Array Value) = #[Value.int .i64 x, Value.pointer (some ⟨wr.heap.size, 0, none⟩)] := rfl
            rw [e]
            exact enF_any x s _ X hX R hR
          have HPD := Lib.hid hpw
          have HIV := Lib.hid (show ∀ W W', SInv wr.heap.size s W → Grow W W' → SInv wr.heap.size s W' from fun _ _ h g => g.blk h)
          have hgn : Grow w4 (wr.alloc (.cells #[.int .i64 (s : Int)] 3)) := HG8.out.trans HGX.out
          have HNX := Lib.hid (show IntsAt _ (.slice an K.length cn) (K.map fun l => (maskN l : Int)) from by have h := HND.out.grow hgn; rw [List.length_map] at h; exact h)
          clear hpw hgn
          go_wp2_with fail
          refine containsFI_any _ _ HEN.out (misI s) (SInv wr.heap.size s) HIV.out HPD.out _ _ _ HNX.out HBX.out _ ?_
          intro w6 hg6
          rw [HKM.out s hs256]
          have HBX6 := Lib.hid (hg6.blk HBX.out)
          have HG9 := Lib.hid (HG8.out.trans (HGX.out.trans hg6))
          have HBV6 := Lib.hid (HBV.out.grow (HGX.out.trans hg6))
          have hz6 := (HGX.out.trans hg6).sz
          clear hg6
          cases hcv : covB K s with
          | false =>
            have HSE := Lib.hid (show bestN n K (s + 1) = (B, f) by rw [HSU.out]; unfold stepB; rw [hcv]; rfl)
            clear hcv
            go_wp2_with fail
            go_roundw
            case rel => exact ⟨s + 1, by omega, by go_num, HG9.out, by rw [HSE.out], by rw [HSE.out]; exact HBV6.out⟩
            case measure => simp [intOf]; omega
          | true =>
            have HSE := Lib.hid (show bestN n K (s + 1) = if (!f || lessL (bitsL n s) B) then (bitsL n s, true) else (B, f) by rw [HSU.out]; unfold stepB; rw [hcv]; rfl)
            clear hcv
            go_wp2_with fail
            obtain ⟨wo, rfl⟩ : ∃ z : World, z = wr := ⟨_, rfl⟩
            go_loopw [16, 17, 63] (fun out _ i wr => ∃ j : Nat, j ≤ n ∧ i = .int .i64 j ∧ Grow w6 wr ∧ wr.ownsRow w6.heap.size 3 1 out (bitsL j s).length ((bitsL j s).flatMap encI)) (fun _ _ i _ => n - (intOf i).toNat)
            case atStart => exact ⟨0, Nat.zero_le _, rfl, Grow.refl _, World.ownsRow_nil _ _ _ _⟩
            case round =>
              obtain ⟨j, hj, rfl, hg, how⟩ := hrel
              have HGJ := Lib.hid hg
              have HOJ := Lib.hid how
              have hzj := hg.sz
              clear hg how
              by_cases hjn : j < n
              · have hjn2 : (j : Int) < (n : Int) := by omega
                have d0 := box1 (HGJ.out.blk HBX6.out)
                have hzb := lt_of_block (HGJ.out.blk HBX6.out)
                have hbd := bits_digit s j hs256
                have HBS := Lib.hid (bitsL_succ j s)
                have z1 : (0 : Int) ≤ (j : Int) := by omega
                have z2 : (j : Int) ≤ 64 := by omega
                have hbl := bitsL_len j s
                have HLB := Lib.hid (show (bitsL j s).length < 100000000000 by omega)
                clear hbl
                cases htb : s.testBit j with
                | false =>
                  rw [htb, if_neg (by decide)] at hbd
                  have HBE := Lib.hid (show bitsL (j + 1) s = bitsL j s by rw [HBS.out, htb, if_neg (by decide), List.append_nil])
                  clear htb
                  go_wp2_with fail
                  go_roundw
                  case rel => exact ⟨j + 1, by omega, by go_num, HGJ.out, by rw [HBE.out]; exact HOJ.out⟩
                  case measure => simp [intOf]; omega
                | true =>
                  rw [htb, if_pos rfl] at hbd
                  have HBE := Lib.hid (show bitsL (j + 1) s = bitsL j s ++ [(j : Int)] by rw [HBS.out, htb, if_pos rfl])
                  clear htb
                  go_wp2_with (at_builtin; refine wpList_app _ rfl (.tmp 71) (.tmp 73) 35 rfl w6.heap.size 3 Tryz.underlying35 info_int rfl (by decide) (by decide) encI encI_len encI_one _ (bitsL j s) rfl (((Grow.refl _).alloc _).owns HOJ.out) _ (j : Int) 1 rfl (newsG _ _ (by simp) (encI (j : Int)) _) HLB.out (by simp; omega) ?_; intro out2 w7 hown7 hgr7)
                  have HG10 := Lib.hid (show Grow w6 w7 from grown_below HOJ.out hgr7 (Nat.le_refl _) (by simp; omega) (HGJ.out.alloc _))
                  have HO7 := Lib.hid hown7
                  clear hown7 hgr7
                  go_roundw
                  case rel => exact ⟨j + 1, by omega, by go_num, HG10.out, by rw [HBE.out]; exact HO7.out⟩
                  case measure => simp [intOf]; omega
              · have hje : j = n := by omega
                have hjn3 : ¬ (j : Int) < (n : Int) := by omega
                have HO8 := HOJ.out
                rw [hje] at HO8
                obtain ⟨T, hT⟩ : ∃ T, bitsL n s = T := ⟨_, rfl⟩
                rw [hT] at HO8 HSE
                have HTA := Lib.hid (slc_of_owns encI_len HO8)
                obtain ⟨at_, ct, hvt, t1, t2, jk8⟩ := slc_of_owns encI_len HO8
                subst hvt
                have HB8 := Lib.hid (HBV6.out.grow HGJ.out)
                have HG11 := Lib.hid (HG9.out.trans HGJ.out)
                clear HO8 jk8 hT hj hjn hje
                cases f with
                | false =>
                  have HSF := Lib.hid (show bestN n K (s + 1) = (T, true) by rw [HSE.out, if_pos (by rfl)])
                  go_wp2_with fail
                  go_roundw
                  case rel => exact ⟨s + 1, by omega, by go_num, HG11.out, by rw [HSF.out], by rw [HSF.out]; exact HTA.out⟩
                  case measure => simp [intOf]; omega
                | true =>
                  by_cases hl1 : T.length < B.length
                  · have hl2 : (T.length : Int) < (B.length : Int) := by omega
                    have HSF := Lib.hid (show bestN n K (s + 1) = (T, true) by rw [HSE.out, if_pos (by unfold lessL; rw [decide_eq_true hl1]; rfl)])
                    go_wp2_with fail
                    go_roundw
                    case rel => exact ⟨s + 1, by omega, by go_num, HG11.out, by rw [HSF.out], by rw [HSF.out]; exact HTA.out⟩
                    case measure => simp [intOf]; omega
                  have hl2 : ¬ (T.length : Int) < (B.length : Int) := by omega
                  by_cases hl3 : T.length = B.length
                  rotate_left
                  · have hl4 : ¬ (T.length : Int) = (B.length : Int) := by omega
                    have hl5 : ((T.length : Int) == (B.length : Int)) = false := beq_eq_false_iff_ne.2 hl4
                    have HSF := Lib.hid (show bestN n K (s + 1) = (B, true) by rw [HSE.out, if_neg (by unfold lessL; rw [decide_eq_false hl1, decide_eq_false hl3]; simp)])
                    go_wp2_with fail
                    go_roundw
                    case rel => exact ⟨s + 1, by omega, by go_num, HG11.out, by rw [HSF.out], by rw [HSF.out]; exact HB8.out⟩
                    case measure => simp [intOf]; omega
                  have hl4 : (T.length : Int) = (B.length : Int) := by omega
                  have hl5 : ((T.length : Int) == (B.length : Int)) = true := beq_iff_eq.2 hl4
                  obtain ⟨c, hc⟩ : ∃ c, cmpIs T B = c := ⟨_, rfl⟩
                  have hcl := cmpIs_lt T B
                  rw [hc] at hcl
                  have HC := Lib.hid hc
                  clear hc
                  by_cases hc0 : c < 0
                  · rw [decide_eq_true hc0] at hcl
                    have HSF := Lib.hid (show bestN n K (s + 1) = (T, true) by rw [HSE.out, if_pos (by unfold lessL; rw [decide_eq_true hl3, ← hcl]; simp)])
                    clear hcl hl3 hl1
                    go_wp2_with fail
                    refine compareIs_any _ _ _ _ _ HTA.out HB8.out _ ?_
                    rw [HC.out]
                    go_wp2_with fail
                    go_roundw
                    case rel => exact ⟨s + 1, by omega, by go_num, HG11.out, by rw [HSF.out], by rw [HSF.out]; exact HTA.out⟩
                    case measure => simp [intOf]; omega
                  · rw [decide_eq_false hc0] at hcl
                    have HSF := Lib.hid (show bestN n K (s + 1) = (B, true) by rw [HSE.out, if_neg (by unfold lessL; rw [decide_eq_false hl1, decide_eq_true hl3, ← hcl]; simp)])
                    clear hcl hl3 hl1
                    go_wp2_with fail
                    refine compareIs_any _ _ _ _ _ HTA.out HB8.out _ ?_
                    rw [HC.out]
                    go_wp2_with fail
                    go_roundw
                    case rel => exact ⟨s + 1, by omega, by go_num, HG11.out, by rw [HSF.out], by rw [HSF.out]; exact HB8.out⟩
                    case measure => simp [intOf]; omega
        · have hse : s = N := by omega
          have hfin : B = (bestN n K N).1 := (congrArg Prod.fst (HNS.out hse))
          have HF := Lib.hid (HR.out wr (.slice ba B.length bc) (HG6.out.trans HG8.out) (by rw [← hfin]; exact HBV.out))
          have hsN2 : ¬ (s : Int) < (N : Int) := by omega
          clear hfin
          go_wp2_with fail
          exact HF.out
end Go.Proofs.YtbccbokjecdaaaaGreat
