/-
The walks of mutants and Mutants.
The walk of Alive: the mutants that no test kills.
-/
import Derived.Test.YtbccbokjecdaaaaGreatC19
import Derived.Test.YtbccbokjecdaaaaGreatC18
import Derived.Test.YtbccbokjecdaaaaGreatC08
import Derived.Maps.AppendAt
namespace Go.Proofs.YtbccbokjecdaaaaGreat
open Go.RowKit

/-- append of one element, and where the new list lies. -/
theorem wpList_appAt {P : Program} {α : Type} (w : World) {ops : Array Oper} {rest : List Oper} {o : Oper} {a : Act} {Q : Exit → Act → World → Prop} (hgd : o.guard = none) (s x : Operand) (t : TypeId)
    (ho : o.op = .call { callee := .builtin .append, args := #[s, x], argTypes := #[t, t] })
    (base : Nat) (e : TypeId) {k bytes : Nat} {z : Value} (ht : P.underlying t = some (.slice e)) (info : (P.info? e).map (fun i => (i.zero, i.size, i.bytes)) = some (some z, k, bytes))
    (hzs : z.cells.size = k) (hk : 0 < k) (hby : bytes ≤ 1000)
    (enc : α → List Value) (hen : ∀ x, (enc x).length = k) (h1 : ∀ x, ∀ u ∈ enc x, u.oneCell' = true)
    (v : Value) (xs : List α) (hs : a.eval s = v) (hown : w.ownsRow base e k v xs.length (xs.flatMap enc)) (ad : Addr) (y : α) (c : Nat) (hx : a.eval x = .slice (some ad) 1 c)
    (hnews : ∀ j u, (enc y)[j]? = some u → w.cell? (ad.add j) = some u) (hn : xs.length < 100000000000) (hbase : base ≤ w.heap.size)
    (h : ∀ v' w', w'.ownsRow base e k v' (xs ++ [y]).length ((xs ++ [y]).flatMap enc) → w.grownBy w' v.ownBlock → (v'.ownBlock = v.ownBlock ∨ v'.ownBlock = some w.heap.size) → wpList P ops Q rest (a.put o.dst v') w') : wpList P ops Q (o :: rest) a w := by
  obtain ⟨i, hi, hz0, hz1, hz2⟩ := info_parts info
  refine wpList_append_own_at w hgd s x t ho base e i z k bytes ht hi hz0 hz1 hz2 hzs hk v xs.length (xs.flatMap enc) hs hown ad 1 c (enc y) hx (by rw [hen]; omega) hnews (h1 y) (by unfold maxLen; omega) ?_ hbase ?_
  · exact Nat.le_trans (Nat.mul_le_mul (show xs.length + 1 ≤ 100000000000 by omega) hby) (by decide)
  · intro v' w' a1 a2 _ a4
    refine h v' w' ?_ a2 a4
    rw [List.length_append, List.flatMap_append]
    simpa using a1
theorem slc_kept {α : Type} {k : Nat} {enc : α → List Value} {w w' : World} {a : Option Addr} {n c : Nat} {xs : List α} {row : Option Nat} (h : SlcAt k enc w (.slice a n c) xs) (hg : w.grownBy w' row) (hne : ∀ b o s, a = some ⟨b, o, s⟩ → row ≠ some b) : SlcAt k enc w' (.slice a n c) xs := by
  obtain ⟨_, _, e, h1, h2, h3⟩ := h
  cases e
  refine ⟨a, c, rfl, h1, h2, h3.imp id ?_⟩
  rintro ⟨b, o, rfl, hb, hc⟩
  exact ⟨b, o, rfl, Nat.lt_of_lt_of_le hb hg.size, fun j x hx i u hu => hg.cell (hc j x hx i u hu) (fun e => hne b o none rfl e.symm)⟩
set_option maxRecDepth 100000 in
set_option maxHeartbeats 16000000 in
theorem mutants_any (p : List Ln) (pv : Value) (w : World) (hp : LinesAt w pv p) (hval : valP p = 0) (R : Ending → World → Prop)
    (hR : ∀ w' v, Grow w w' → OwnE w.heap.size w' v (mutM p p.length) → R (.returned v) w') :
    Calls Tryz.prog 54 #[pv] w R := by
  have HP := Lib.hid hp
  have HR := Lib.hid hR
  have HV := Lib.hid hval
  have hp8 := (valP_ok.1 hval).1
  have HALL := Lib.hid (valP_ok.1 hval).2
  obtain ⟨pa, pc, rfl, p1, p2, _⟩ := hp
  clear hR hval
  go_enter Tryz.func54, Tryz.ntmps54
  go_wp2_with fail
  go_loopw [3, 4, 5, 7, 10, 18] (fun out _ _ _ i _ wr => ∃ (k : Nat) (ov : Value), k ≤ p.length ∧ i = .int .i64 k ∧ ov = out ∧ Grow w wr ∧ wr.ownsRow w.heap.size 27 5 ov (mutM p k).length ((mutM p k).flatMap encE)) (fun _ _ _ _ i _ _ => p.length - (intOf i).toNat)
  case atStart => exact ⟨0, _, Nat.zero_le _, rfl, rfl, Grow.refl _, World.ownsRow_nil _ _ _ _⟩
  case round =>
    obtain ⟨k, out, hk, rfl, rfl, hg, how⟩ := hrel
    have HG := Lib.hid hg
    have HOW := Lib.hid how
    have hzw := hg.sz
    clear hg how
    by_cases hlt : k < p.length
    · obtain ⟨⟨op, d, a, b⟩, hx⟩ : ∃ x, p[k]? = some x := ⟨_, List.getElem?_eq_getElem hlt⟩
      obtain ⟨gp, o, rfl, hgp, y0, y1, y2, y3⟩ := lines_at (HP.out.grow HG.out) hx
      have hlt2 : (k : Int) < (p.length : Int) := by omega
      have hla : lineAt p (k : Int) = ⟨op, d, a, b⟩ := by unfold lineAt; rw [show ((k : Int)).toNat = k by omega, hx]; rfl
      have HOKL := Lib.hid (show vL op d a b = true from HALL.out _ (List.mem_of_getElem? hx))
      have hlen := mutM_len HV.out k hk
      have htl := tmpl_len (l := ⟨op, d, a, b⟩) HOKL.out
      have hsc := mutM_succ p k
      rw [hla] at hsc
      obtain ⟨L, hL⟩ : ∃ L, tmpl ⟨op, d, a, b⟩ = L := ⟨_, rfl⟩
      rw [hL] at hsc htl
      have HSC := Lib.hid hsc
      have HL := Lib.hid hL
      clear hx hla hsc hL
      go_wp2_with fail
      have hgb := (Grow.refl wr).alloc (.cells #[.int .i64 op, .int .i64 d, .int .i64 a, .int .i64 b] 25)
      have hsW : (wr.alloc (.cells #[.int .i64 op, .int .i64 d, .int .i64 a, .int .i64 b] 25)).heap.size = wr.heap.size + 1 := by simp
      generalize wr.alloc (.cells #[.int .i64 op, .int .i64 d, .int .i64 a, .int .i64 b] 25) = W at hgb hsW ⊢
      have hszW := hgb.sz
      refine templatesN_any op d a b _ HOKL.out _ ?_
      intro w1 v1 hg1 hv1
      rw [HL.out] at hv1
      obtain ⟨hv1, hv1n⟩ := hv1
      have HV1 := Lib.hid hv1
      obtain ⟨a1, c1, rfl, q1, q2, _⟩ := hv1
      have HNE := Lib.hid (show ∀ b o s, a1 = some ⟨b, o, s⟩ → out.ownBlock ≠ some b from fun b o s h he => by have h1 := hv1n b o s _ _ (by rw [h]); have h2 := (HOW.out.lt b he).2; omega)
      have HG1 := Lib.hid (HG.out.trans (hgb.trans hg1))
      have HO1 := Lib.hid ((hgb.trans hg1).owns HOW.out)
      have hz1 := (HG.out.trans (hgb.trans hg1)).sz
      clear hgb hg1 y0 y1 y2 y3 HOW
      go_wp2_with fail
      obtain ⟨wo, hwo⟩ : ∃ z : World, z = wr := ⟨_, rfl⟩
      clear hwo
      go_loopw [3, 7, 18] (fun out _ i wr => ∃ j : Nat, j ≤ L.length ∧ i = .int .i64 j ∧ Grow w wr ∧ LinesAt wr (.slice a1 L.length c1) L ∧ (∀ b o s, a1 = some ⟨b, o, s⟩ → out.ownBlock ≠ some b) ∧ wr.ownsRow w.heap.size 27 5 out (mutM p k ++ (L.take j).map (Ed.mk k)).length ((mutM p k ++ (L.take j).map (Ed.mk k)).flatMap encE)) (fun _ _ i _ => L.length - (intOf i).toNat)
      case atStart => exact ⟨0, Nat.zero_le _, rfl, HG1.out, HV1.out, HNE.out, by simpa using HO1.out⟩
      case round =>
        obtain ⟨j, hj, rfl, hgw, hlw, hnw, how⟩ := hrel
        have HGW := Lib.hid hgw
        have HLW := Lib.hid hlw
        have HNW := Lib.hid hnw
        have HOW := Lib.hid how
        have hzw2 := hgw.sz
        clear hgw hlw hnw how HO1 HV1 HNE
        by_cases hjl : j < L.length
        · obtain ⟨⟨o2, d2, a2, b2⟩, hx⟩ : ∃ x, L[j]? = some x := ⟨_, List.getElem?_eq_getElem hjl⟩
          obtain ⟨gA, oA, rfl, hgA, f0, f1, f2, f3⟩ := lines_at HLW.out hx
          have hjl2 : (j : Int) < (L.length : Int) := by omega
          have HTK := Lib.hid (show mutM p k ++ (L.take (j + 1)).map (Ed.mk k) = (mutM p k ++ (L.take j).map (Ed.mk k)) ++ [⟨(k : Int), ⟨o2, d2, a2, b2⟩⟩] by rw [List.take_add_one, hx, List.map_append, List.append_assoc]; rfl)
          have HLB := Lib.hid (show (mutM p k ++ (L.take j).map (Ed.mk k)).length < 100000000000 by rw [List.length_append, List.length_map, List.length_take]; omega)
          have hgb1 := (Grow.refl wr).alloc (.cells #[.int .i64 o2, .int .i64 d2, .int .i64 a2, .int .i64 b2] 25)
          have hgb2 := hgb1.alloc (.cells #[.int .i64 (k : Int), .int .i64 o2, .int .i64 d2, .int .i64 a2, .int .i64 b2] 27)
          clear hx
          go_wp2_with (at_builtin; refine wpList_appAt _ rfl (.tmp 22) (.tmp 26) 31 rfl w.heap.size 27 Tryz.underlying31 info_ed rfl (by decide) (by decide) encE encE_len encE_one _ (mutM p k ++ (L.take j).map (Ed.mk k)) rfl (hgb2.owns HOW.out) _ (⟨(k : Int), ⟨o2, d2, a2, b2⟩⟩ : Ed) 1 rfl (newsG _ _ (by simp) (encE ⟨(k : Int), ⟨o2, d2, a2, b2⟩⟩) _) HLB.out (by simp; omega) ?_; intro out2 w4 hown2 hgr2 hat2)
          have HG4 := Lib.hid (show Grow w w4 from grown_below HOW.out hgr2 (Nat.le_refl _) (by simp; omega) (HGW.out.trans hgb2))
          have HL4 := Lib.hid (slc_kept (HLW.out.grow hgb2) hgr2 HNW.out)
          have HN4 := Lib.hid (show ∀ b o s, (some (⟨gA, oA, none⟩ : Addr)) = some ⟨b, o, s⟩ → out2.ownBlock ≠ some b from fun b o s h he => by
            rcases hat2 with h2 | h2
            · rw [h2] at he; exact HNW.out b o s h he
            · rw [h2] at he
              cases h
              have := Option.some.inj he
              simp at this
              omega)
          have HO2 := Lib.hid hown2
          clear hown2 hgr2 hat2 f0 f1 f2 f3
          go_roundw
          case rel => exact ⟨j + 1, by omega, by go_num, HG4.out, HL4.out, HN4.out, by rw [HTK.out]; exact HO2.out⟩
          case measure => simp [intOf]; omega
        · have hjn : j = L.length := by omega
          have HO2 := HOW.out
          rw [hjn, List.take_length, ← HSC.out] at HO2
          have HO3 := Lib.hid HO2
          clear HO2 hjn
          go_wp2_with fail
          go_roundw
          case rel => exact ⟨k + 1, _, by omega, by go_num, rfl, HGW.out, HO3.out⟩
          case measure => simp [intOf]; omega
    · have hkn : k = p.length := by omega
      have HO2 := HOW.out
      rw [hkn] at HO2
      have hmb := mutM_len HV.out p.length (Nat.le_refl _)
      have HOE := Lib.hid (OwnE.of_own HO2)
      clear HO2 hkn
      go_wp2_with fail
      refine orderedE_any (mutM p p.length) (mutM_asc p _) w.heap.size _ _ HOE.out (by omega) _ ?_
      intro w5 hb5 ho5
      have HF := Lib.hid (HR.out w5 _ (Below.trans HG.out hb5) ho5)
      clear hb5 ho5
      go_wp2_with fail
      exact HF.out

set_option maxHeartbeats 4000000 in
theorem Mutants_any (p : List Ln) (pv : Value) (w : World) (hp : LinesAt w pv p) (R : Ending → World → Prop)
    (hR : ∀ w' v, Grow w w' → EditsAt w' v (mutO p) → R (.returned (.tuple #[v, .int .i64 (valP p)])) w') :
    Calls Tryz.prog 16 #[pv] w R := by
  have HP := Lib.hid hp
  rw [show mutO p = ifOK (valP p) (mutM p p.length) from rfl] at hR
  have HR := Lib.hid hR
  obtain ⟨e, he⟩ : ∃ e, valP p = e := ⟨_, rfl⟩
  rw [he] at HR
  have HE := Lib.hid he
  obtain ⟨pa, pc, rfl, _⟩ := hp
  clear hR he
  by_cases h0 : e = 0
  · subst h0
    rw [ifOK_ok] at HR
    go_enter Tryz.func16, Tryz.ntmps16
    go_wp2_with fail
    refine validate_any p _ _ HP.out _ ?_
    intro w1 hg1
    rw [HE.out]
    have HG1 := Lib.hid hg1
    clear hg1
    go_wp2_with fail
    refine mutants_any p _ _ (HP.out.grow HG1.out) HE.out _ ?_
    intro w2 v2 hg2 hv2
    have HF := Lib.hid (HR.out w2 v2 (HG1.out.trans hg2) hv2.edits)
    clear hg2 hv2
    go_wp2_with fail
    exact HF.out
  · rw [ifOK_err h0] at HR
    have t1 : (e != 0) = true := by simpa using h0
    clear h0
    go_enter Tryz.func16, Tryz.ntmps16
    go_wp2_with fail
    refine validate_any p _ _ HP.out _ ?_
    intro w1 hg1
    rw [HE.out]
    have HF := Lib.hid (HR.out w1 (.slice none 0 0) hg1 (SlcAt.nil _ _ _))
    clear hg1
    go_wp2_with fail
    exact HF.out
end Go.Proofs.YtbccbokjecdaaaaGreat

namespace Go.Proofs.YtbccbokjecdaaaaGreat
open Go.RowKit

/-- Some test kills the mutant; and those that none kills. -/
def alB (p : List Ln) (ts : List Tst) (m : Ed) : Bool := decide (0 < (brkO p [m] ts).length)
def aliveM (p : List Ln) (ts : List Tst) : List Ed := keepE (alB p ts) (mutM p p.length)
def aliveO (p : List Ln) (ts : List Tst) : List Ed := ifOK (chkT p ts) (aliveM p ts)

set_option maxHeartbeats 4000000 in
theorem aliveF_any (p : List Ln) (ts : List Tst) (pv tv : Value) (c1 c2 : Nat) (W0 : World) (hp : LinesAt W0 pv p) (ht : TestsAt W0 tv ts) (h1 : W0.heap[c1]? = some (.cells #[pv] 22 (0, 0))) (h2 : W0.heap[c2]? = some (.cells #[tv] 23 (0, 0))) :
    PredV 70 #[.pointer (some ⟨c1, 0, none⟩), .pointer (some ⟨c2, 0, none⟩)] (alB p ts) (Grow W0) := by
  intro t op d a b X hX R hR
  have HP := Lib.hid (hp.grow hX)
  have HT := Lib.hid (ht.grow hX)
  have H1 := Lib.hid (hX.blk h1)
  have H2 := Lib.hid (hX.blk h2)
  obtain ⟨n, hn⟩ : ∃ n, (brkO p [⟨t, ⟨op, d, a, b⟩⟩] ts).length = n := ⟨_, rfl⟩
  rw [show alB p ts ⟨t, ⟨op, d, a, b⟩⟩ = decide (0 < (brkO p [⟨t, ⟨op, d, a, b⟩⟩] ts).length) from rfl, hn] at hR
  have HN := Lib.hid hn
  have HR := Lib.hid hR
  obtain ⟨pa, pc, rfl, _⟩ := hp
  obtain ⟨⟨ta, tc, rfl, _⟩, _⟩ := ht
  have e1 := box1 H1.out
  have e2 := box1 H2.out
  have z1 := lt_of_block H1.out
  have z2 := lt_of_block H2.out
  clear hR hn h1 h2 hX
  rw [show (#[Value.agg #[.int .i64 t, .int .i64 op, .int .i64 d, .int .i64 a, .int .i64 b]] ++ #[Value.pointer (some ⟨c1, 0, none⟩), Value.pointer (some ⟨c2, 0, none⟩)]) = #[Value.agg #[.int .i64 t, .int .i64 op, .int .i64 d, .int .i64 a, .int .i64 b], Value.pointer (some ⟨c1, 0, none⟩), Value.pointer (some ⟨c2, 0, none⟩)] from rfl]
  have hgb := (Grow.refl X).alloc (.cells #[.int .i64 t, .int .i64 op, .int .i64 d, .int .i64 a, .int .i64 b] 27)
  have HGB := Lib.hid hgb
  clear hgb
  go_enter Tryz.func70, Tryz.ntmps70
  go_wp2_with fail
  refine kills_any p ts t op d a b _ _ _ (HP.out.grow HGB.out) (HT.out.grow HGB.out) _ ?_
  intro w1 v1 hg1 hv1
  obtain ⟨a1, k1, rfl, _⟩ := hv1
  rw [HN.out]
  have HF := Lib.hid (HR.out w1 (HGB.out.trans hg1))
  clear hg1
  by_cases h0 : 0 < n
  · have t1 : (n : Int) > 0 := by omega
    have hd : decide (0 < n) = true := decide_eq_true h0
    rw [hd] at HF
    clear hd h0
    go_wp2_with fail
    first | exact HF.out | (have hd : decide ((n : Int) > 0) = true := decide_eq_true t1; rw [hd]; exact HF.out) | (have hd : decide (0 < n) = true := decide_eq_true (by omega); rw [hd]; exact HF.out)
  · have hn0 : n = 0 := by omega
    subst hn0
    have hd : decide (0 < 0) = false := rfl
    rw [hd] at HF
    clear h0 hd
    go_wp2_with fail
    exact HF.out

set_option maxHeartbeats 2000000 in
theorem deleteFV_none (f : Nat) (cb : Array Value) (eg : Enters Tryz.prog f) (pr : Ed → Bool) (Inv : World → Prop) (hI : ∀ W W', Inv W → Grow W W' → Inv W') (hp : PredV f cb pr Inv) (w : World) (hi : Inv w) (R : Ending → World → Prop) (hR : ∀ w', Grow w w' → R (.returned (.slice none 0 0)) w') :
    Calls Tryz.prog 69 #[.slice none 0 0, .func (.func f) #[] cb] w R := by
  have HR := Lib.hid hR
  have HI := Lib.hid hI
  have HP := Lib.hid hp
  have HI0 := Lib.hid hi
  have EG := Lib.hid eg
  unfold Enters at eg
  clear hR hI hp hi
  go_enter Tryz.func69, Tryz.ntmps69
  go_wp2_with fail
  refine indexFV_any f cb EG.out pr Inv HI.out HP.out [] _ _ (SlcAt.nil _ _ _) HI0.out _ ?_ ?_
  · intro w1 k x hg1 hx _ _
    simp at hx
  · intro w1 hg1 _
    have HF := Lib.hid (HR.out w1 hg1)
    clear hg1
    go_wp2_with fail
    exact HF.out

set_option maxHeartbeats 4000000 in
theorem deleteAlive_any (p : List Ln) (ts : List Tst) (pv tv v : Value) (c1 c2 : Nat) (W0 w : World) (hp : LinesAt W0 pv p) (ht : TestsAt W0 tv ts) (h1 : W0.heap[c1]? = some (.cells #[pv] 22 (0, 0))) (h2 : W0.heap[c2]? = some (.cells #[tv] 23 (0, 0))) (hg0 : Grow W0 w) (M : List Ed) (hv : OwnE W0.heap.size w v M) (R : Ending → World → Prop)
    (hR : ∀ w' v', Grow W0 w' → EditsAt w' v' (keepE (alB p ts) M) → R (.returned v') w') :
    Calls Tryz.prog 69 #[v, .func (.func 70) #[] #[.pointer (some ⟨c1, 0, none⟩), .pointer (some ⟨c2, 0, none⟩)]] w R := by
  have eg : Enters Tryz.prog 70 := enters_of Tryz.func70 (by kernel_rfl) rfl
  have hpr := aliveF_any p ts pv tv c1 c2 W0 hp ht h1 h2
  rcases hv with ⟨rfl, rfl⟩ | ⟨g, cap, rfl, hB, hg, hcap, hm, hrow⟩
  · exact deleteFV_none _ _ eg _ (Grow W0) (fun _ _ h k => h.trans k) hpr w hg0 R fun w' hg => hR w' _ (hg0.trans hg) (SlcAt.nil _ _ _)
  · refine deleteFV_any _ _ eg _ (Grow W0) (fun _ _ h k => h.trans k) hpr M g M.length cap W0.heap.size (fun W k e h => below_storeE e h hB) w rfl hcap hm hrow hg hB hg0 R ?_
    intro w' hb' hg' hr'
    have hle : (keepE (alB p ts) M).length ≤ M.length := List.length_filter_le _ _
    exact hR w' _ (Below.trans hg0 hb') (hr'.slc hg' (Nat.le_trans hle hcap) hm)

set_option maxHeartbeats 4000000 in
theorem Alive_any (p : List Ln) (ts : List Tst) (pv tv : Value) (w : World) (hp : LinesAt w pv p) (ht : TestsAt w tv ts) (R : Ending → World → Prop)
    (hR : ∀ w' v, Grow w w' → EditsAt w' v (aliveO p ts) → R (.returned (.tuple #[v, .int .i64 (chkT p ts)])) w') :
    Calls Tryz.prog 23 #[pv, tv] w R := by
  have HP := Lib.hid hp
  have HT := Lib.hid ht
  rw [show aliveO p ts = ifOK (chkT p ts) (aliveM p ts) from rfl] at hR
  have HR := Lib.hid hR
  obtain ⟨e, he⟩ : ∃ e, chkT p ts = e := ⟨_, rfl⟩
  have hok := fun h : e = 0 => chkT_ok.1 (he.trans h)
  rw [he] at HR
  have HE := Lib.hid he
  obtain ⟨pa, pc, rfl, _⟩ := hp
  obtain ⟨⟨ta, tc, rfl, _⟩, _⟩ := ht
  clear hR he
  have hb1 := heap_alloc_new w (.cells #[.slice pa p.length pc] 22)
  have hb2 := heap_alloc_new (w.alloc (.cells #[.slice pa p.length pc] 22)) (.cells #[.slice ta ts.length tc] 23)
  have hg1 := (Grow.refl w).alloc (.cells #[.slice pa p.length pc] 22)
  have hg2 := (Grow.refl (w.alloc (.cells #[.slice pa p.length pc] 22))).alloc (.cells #[.slice ta ts.length tc] 23)
  have hsz : (w.alloc (.cells #[.slice pa p.length pc] 22)).heap.size = w.heap.size + 1 := by simp
  go_enter Tryz.func23, Tryz.ntmps23
  go_wp2_with fail
  rw [hsz] at hb2
  have hb1' := hg2.blk hb1
  have hgw := hg1.trans hg2
  generalize (w.alloc (.cells #[.slice pa p.length pc] 22)).alloc (.cells #[.slice ta ts.length tc] 23) = W at hb1' hb2 hgw ⊢
  clear hb1 hg1 hg2 hsz
  have HB1 := Lib.hid hb1'
  have HB2 := Lib.hid hb2
  have HG := Lib.hid hgw
  have e1 := box1 hb1'
  have e2 := box1 hb2
  have z1 := lt_of_block hb1'
  have z2 := lt_of_block hb2
  clear hb1' hb2 hgw
  go_wp2_with fail
  refine programs_any p ts _ _ _ (HP.out.grow HG.out) (HT.out.grow HG.out) _ ?_
  intro w1 hg1
  rw [HE.out]
  have f1 := box1 (hg1.blk HB1.out)
  have f2 := box1 (hg1.blk HB2.out)
  have y1 := lt_of_block (hg1.blk HB1.out)
  have y2 := lt_of_block (hg1.blk HB2.out)
  have HG1 := Lib.hid hg1
  clear hg1 e1 e2 z1 z2
  by_cases h0 : e = 0
  rotate_left
  · rw [ifOK_err h0] at HR
    have t1 : (e != 0) = true := by simpa using h0
    have HF := Lib.hid (HR.out w1 (.slice none 0 0) (HG.out.trans HG1.out) (SlcAt.nil _ _ _))
    clear h0 hok
    go_wp2_with fail
    exact HF.out
  obtain ⟨hv, hvt⟩ := hok h0
  subst h0
  rw [ifOK_ok] at HR
  have HV := Lib.hid hv
  clear hok hv hvt
  go_wp2_with fail
  refine mutants_any p _ _ (HP.out.grow (HG.out.trans HG1.out)) HV.out _ ?_
  intro w2 v2 hg2 hv2
  have hv3 : OwnE W.heap.size w2 v2 (mutM p p.length) := by
    rcases hv2 with h | ⟨g, cap, hv, hB, hg, hr⟩
    · exact .inl h
    · exact .inr ⟨g, cap, hv, Nat.le_trans HG1.out.sz hB, hg, hr⟩
  have HV3 := Lib.hid hv3
  have HG2 := Lib.hid (HG1.out.trans hg2)
  clear hg2 hv2 hv3
  go_wp2_with fail
  refine deleteAlive_any p ts _ _ v2 w.heap.size (w.heap.size + 1) W w2 (HP.out.grow HG.out) (HT.out.grow HG.out) HB1.out HB2.out HG2.out _ HV3.out _ ?_
  intro w3 v3 hg3 hv3
  have HF := Lib.hid (HR.out w3 v3 (HG.out.trans hg3) hv3)
  clear hg3 hv3
  go_wp2_with fail
  exact HF.out
end Go.Proofs.YtbccbokjecdaaaaGreat
