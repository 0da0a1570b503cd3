/-
The walks of the document's mutants and Mutants.
The share of the mutants that are killed: plain laws.
The walk of Score: the share of the mutants that are killed.
The walks of the document's Alive, Ratio and Score.
A test less never makes the share of the killed mutants greater: plain laws.
-/
import Derived.Test.YtbccbokjecdaaaaGreatC10
import Derived.Test.YtbccbokjecdaaaaGreatC20
import Derived.Test.YtbccbokjecdaaaaGreatC21
import Derived.BigRegion
import Derived.Test.YtbccbokjecdaaaaGreatC18
namespace Go.Proofs.YtbccbokjecdaaaaGreat
open Go.RowKit

set_option maxRecDepth 100000 in
set_option maxHeartbeats 16000000 in
theorem rtemplatesO_any (op d a b : Int) (w : World) (hok : vL op d a b = true) (R : Ending → World → Prop)
    (hR : ∀ w' v, Grow w w' → Own 4 encL w.heap.size w' v (tmpl ⟨op, d, a, b⟩) → R (.returned v) w') :
    Calls Tryz.prog 92 #[.agg #[.int .i64 op, .int .i64 d, .int .i64 a, .int .i64 b]] w R := by
  rw [tmpl_filter (show (⟨op, d, a, b⟩ : Ln).ok = true from hok)] at hR
  have HR := Lib.hid hR
  have HOK := Lib.hid hok
  obtain ⟨F, hF⟩ : ∃ F, (fun x => rnearB ⟨op, d, a, b⟩ x) = F := ⟨_, rfl⟩
  rw [hF] at HR
  have HFF := Lib.hid hF
  obtain ⟨N, hN⟩ : ∃ N, allR.length = N := ⟨_, rfl⟩
  have HN := Lib.hid hN
  have hNb : N ≤ 1000 := by rw [← hN]; decide +kernel
  clear hR hok hF hN
  go_enter Tryz.func92, Tryz.ntmps92
  go_wp2_with fail
  have hb := heap_alloc_new w (.cells #[.int .i64 op, .int .i64 d, .int .i64 a, .int .i64 b] 25)
  have hg := (Grow.refl w).alloc (.cells #[.int .i64 op, .int .i64 d, .int .i64 a, .int .i64 b] 25)
  generalize w.alloc (.cells #[.int .i64 op, .int .i64 d, .int .i64 a, .int .i64 b] 25) = W at hb hg ⊢
  refine rAll_any _ _ ?_
  intro w1 x1 hg1 hx1
  have HX1 := Lib.hid hx1
  obtain ⟨aA, cA, rfl, q1, q2, _⟩ := hx1
  have HB := Lib.hid (hg1.blk hb)
  have HG1 := Lib.hid (hg.trans hg1)
  have hz1 := (hg.trans hg1).sz
  rw [HN.out] at q1 ⊢
  clear hg1 hb hg
  go_wp2_with fail
  go_loopw [4, 5] (fun out i wr => ∃ k : Nat, k ≤ N ∧ i = .int .i64 k ∧ Grow w1 wr ∧ wr.ownsRow w1.heap.size 25 4 out ((allR.take k).filter F).length (((allR.take k).filter F).flatMap encL)) (fun _ i _ => N - (intOf i).toNat)
  case atStart => exact ⟨0, Nat.zero_le _, rfl, Grow.refl _, World.ownsRow_nil _ _ _ _⟩
  case round =>
    obtain ⟨k, hk, rfl, hg, how⟩ := hrel
    have HG := Lib.hid hg
    have HOW := Lib.hid how
    have hzw := hg.sz
    clear hg how
    by_cases hlt : k < N
    · obtain ⟨⟨op2, d2, a2, b2⟩, hx⟩ : ∃ x, allR[k]? = some x := ⟨_, List.getElem?_eq_getElem (by rw [HN.out]; exact hlt)⟩
      have hx1' := HX1.out.grow HG.out
      rw [HN.out] at hx1'
      obtain ⟨gA, oA, rfl, hgA, f0, f1, f2, f3⟩ := lines_at hx1' hx
      obtain ⟨e0, e1, e2, e3⟩ := box4 (HG.out.blk HB.out)
      have hzb := lt_of_block (HG.out.blk HB.out)
      have hlt2 : (k : Int) < (N : Int) := by omega
      have HS := Lib.hid (filter_take_succ (F := F) hx)
      have HLB := Lib.hid (show ((allR.take k).filter F).length < 100000000000 by have := filter_take_len F allR k; have := HN.out; omega)
      have HOK2 := Lib.hid (mem_allR.1 (List.mem_of_getElem? hx))
      obtain ⟨c, hc⟩ : ∃ c, rnearB ⟨op, d, a, b⟩ ⟨op2, d2, a2, b2⟩ = c := ⟨_, rfl⟩
      have HF := Lib.hid (show F ⟨op2, d2, a2, b2⟩ = c by rw [← HFF.out]; exact hc)
      have HCB := Lib.hid hc
      clear hx hx1' hc
      go_wp2_with fail
      go_region_held3 (fun X => X.cell? ⟨w.heap.size, 0, none⟩ = some (.int .i64 op) ∧ X.cell? ⟨w.heap.size, 1, none⟩ = some (.int .i64 d) ∧ X.cell? ⟨w.heap.size, 2, none⟩ = some (.int .i64 a) ∧ X.cell? ⟨w.heap.size, 3, none⟩ = some (.int .i64 b) ∧ X.cell? ⟨gA, oA + k * 4, none⟩ = some (.int .i64 op2) ∧ X.cell? ⟨gA, oA + k * 4 + 1, none⟩ = some (.int .i64 d2) ∧ X.cell? ⟨gA, oA + k * 4 + 2, none⟩ = some (.int .i64 a2) ∧ X.cell? ⟨gA, oA + k * 4 + 3, none⟩ = some (.int .i64 b2) ∧ Grow wr X)
        (first | exact ⟨e0, e1, e2, e3, f0, f1, f2, f3, (Grow.refl wr).drew⟩ | exact ⟨e0, e1, e2, e3, f0, f1, f2, f3, Grow.refl wr⟩ | exact keep8 hg8 (by assumption))
        (first | (go_at_call 64; refine rnear_any op d a b op2 d2 a2 b2 _ HOK.out HOK2.out _ ?_; intro w8 hg8; rw [HCB.out]))
      rename_i hS
      obtain ⟨_, _, _, _, y0, y1, y2, y3, hgr⟩ := hS
      have HG8 := Lib.hid hgr
      have hgA8 : gA < w8.heap.size := Nat.lt_of_lt_of_le hgA hgr.sz
      clear hgr hg8 e0 e1 e2 e3 f0 f1 f2 f3
      cases c with
      | false =>
        go_wp2_with fail
        go_roundw
        case rel => exact ⟨k + 1, by omega, by go_num, HG.out.trans HG8.out, by rw [HS.out, HF.out, if_neg (by decide), List.append_nil]; exact HG8.out.owns HOW.out⟩
        case measure => simp [intOf]; omega
      | true =>
        go_wp2_with (at_builtin; refine wpList_app _ rfl (.tmp 19) (.tmp 24) 22 rfl w1.heap.size 25 Tryz.underlying22 info_ln rfl (by decide) (by decide) encL encL_len encL_one _ ((allR.take k).filter F) rfl ((HG8.out.alloc _).owns HOW.out) _ (⟨op2, d2, a2, b2⟩ : Ln) 1 rfl (news_gen _ _ (by simp) (encL ⟨op2, d2, a2, b2⟩) _) HLB.out (by have := HG.out.sz; have := HG8.out.sz; simp; omega) ?_; intro out2 w3 hown2 hgr2)
        have HG3 := Lib.hid (show Grow w1 w3 from grown_below HOW.out hgr2 (Nat.le_refl _) (by have := HG.out.sz; have := HG8.out.sz; simp; omega) (HG.out.trans (HG8.out.alloc _)))
        have HO2 := Lib.hid hown2
        clear hown2 hgr2
        go_roundw
        case rel => exact ⟨k + 1, by omega, by go_num, HG3.out, by rw [HS.out, HF.out, if_pos rfl]; exact HO2.out⟩
        case measure => simp [intOf]; omega
    · have hkn : k = allR.length := by rw [HN.out]; omega
      have HO2 := HOW.out
      rw [hkn, List.take_length] at HO2
      have HF := Lib.hid (HR.out _ _ (HG1.out.trans HG.out) ⟨_, ownsRow_mono HO2 hz1⟩)
      clear HO2 hkn
      go_wp2_with fail
      exact HF.out

set_option maxRecDepth 100000 in
set_option maxHeartbeats 16000000 in
theorem r5mutants_any (p : List Ln) (pv : Value) (w : World) (hp : LinesAt w pv p) (hval : valP p = 0) (R : Ending → World → Prop)
    (hR : ∀ w' v, Grow w w' → EditsAt w' v (mutM p p.length) → R (.returned v) w') :
    Calls Tryz.prog 56 #[pv] w R := by
  have HP := Lib.hid hp
  have HR := Lib.hid hR
  have HV := Lib.hid hval
  have hp8 := (valP_ok.1 hval).1
  have HALL := Lib.hid (valP_ok.1 hval).2
  obtain ⟨pa, pc, rfl, p1, p2, _⟩ := hp
  clear hR hval
  go_enter Tryz.func56, Tryz.ntmps56
  go_wp2_with fail
  go_loopw [3, 4, 5, 6] (fun out i _ _ wr => ∃ (k : Nat) (ov : Value), k ≤ p.length ∧ i = .int .i64 k ∧ ov = out ∧ Grow w wr ∧ wr.ownsRow w.heap.size 27 5 ov (mutM p k).length ((mutM p k).flatMap encE)) (fun _ i _ _ _ => p.length - (intOf i).toNat)
  case atStart => exact ⟨0, _, Nat.zero_le _, rfl, rfl, Grow.refl _, World.ownsRow_nil _ _ _ _⟩
  case round =>
    obtain ⟨k, out, hk, rfl, rfl, hg, how⟩ := hrel
    have HG := Lib.hid hg
    have HOW := Lib.hid how
    have hzw := hg.sz
    clear hg how
    by_cases hlt : k < p.length
    · obtain ⟨⟨op, d, a, b⟩, hx⟩ : ∃ x, p[k]? = some x := ⟨_, List.getElem?_eq_getElem hlt⟩
      obtain ⟨gp, o, rfl, hgp, y0, y1, y2, y3⟩ := lines_at (HP.out.grow HG.out) hx
      have hlt2 : (k : Int) < (p.length : Int) := by omega
      have hla : lineAt p (k : Int) = ⟨op, d, a, b⟩ := by unfold lineAt; rw [show ((k : Int)).toNat = k by omega, hx]; rfl
      have HOKL := Lib.hid (show vL op d a b = true from HALL.out _ (List.mem_of_getElem? hx))
      have hlen := mutM_len HV.out k hk
      have htl := tmpl_len (l := ⟨op, d, a, b⟩) HOKL.out
      have hsc := mutM_succ p k
      rw [hla] at hsc
      obtain ⟨L, hL⟩ : ∃ L, tmpl ⟨op, d, a, b⟩ = L := ⟨_, rfl⟩
      rw [hL] at hsc htl
      have HSC := Lib.hid hsc
      have HL := Lib.hid hL
      clear hx hla hsc hL
      go_wp2_with fail
      refine rtemplatesO_any op d a b _ HOKL.out _ ?_
      intro w1 v1 hg1 hv1
      rw [HL.out] at hv1
      have hs1 := hv1.slc encL_len
      obtain ⟨a1, c1, rfl, q1, q2, _⟩ := hs1
      have HV1 := Lib.hid (show LinesAt w1 (.slice a1 L.length c1) L from hv1.slc encL_len)
      have hblk := own_blk hv1
      have HNE := Lib.hid (show ∀ b o s, a1 = some ⟨b, o, s⟩ → out.ownBlock ≠ some b from fun b o s h he => by have h1 := hblk b o s h; have h2 := (HOW.out.lt b he).2; omega)
      have HG1 := Lib.hid (HG.out.trans hg1)
      have HO1 := Lib.hid (hg1.owns HOW.out)
      have hz1 := (HG.out.trans hg1).sz
      clear hg1 hv1 hblk y0 y1 y2 y3 HOW
      go_wp2_with fail
      obtain ⟨wo, hwo⟩ : ∃ z : World, z = wr := ⟨_, rfl⟩
      clear hwo
      go_loopw [3, 6] (fun out i wr => ∃ j : Nat, j ≤ L.length ∧ i = .int .i64 j ∧ Grow w wr ∧ LinesAt wr (.slice a1 L.length c1) L ∧ (∀ b o s, a1 = some ⟨b, o, s⟩ → out.ownBlock ≠ some b) ∧ wr.ownsRow w.heap.size 27 5 out (mutM p k ++ (L.take j).map (Ed.mk k)).length ((mutM p k ++ (L.take j).map (Ed.mk k)).flatMap encE)) (fun _ i _ => L.length - (intOf i).toNat)
      case atStart => exact ⟨0, Nat.zero_le _, rfl, HG1.out, HV1.out, HNE.out, by simpa using HO1.out⟩
      case round =>
        obtain ⟨j, hj, rfl, hgw, hlw, hnw, how⟩ := hrel
        have HGW := Lib.hid hgw
        have HLW := Lib.hid hlw
        have HNW := Lib.hid hnw
        have HOW := Lib.hid how
        have hzw2 := hgw.sz
        clear hgw hlw hnw how HO1 HV1 HNE
        by_cases hjl : j < L.length
        · obtain ⟨⟨o2, d2, a2, b2⟩, hx⟩ : ∃ x, L[j]? = some x := ⟨_, List.getElem?_eq_getElem hjl⟩
          obtain ⟨gA, oA, rfl, hgA, f0, f1, f2, f3⟩ := lines_at HLW.out hx
          have hjl2 : (j : Int) < (L.length : Int) := by omega
          have HTK := Lib.hid (show mutM p k ++ (L.take (j + 1)).map (Ed.mk k) = (mutM p k ++ (L.take j).map (Ed.mk k)) ++ [⟨(k : Int), ⟨o2, d2, a2, b2⟩⟩] by rw [List.take_add_one, hx, List.map_append, List.append_assoc]; rfl)
          have HLB := Lib.hid (show (mutM p k ++ (L.take j).map (Ed.mk k)).length < 100000000000 by rw [List.length_append, List.length_map, List.length_take]; omega)
          have hgb2 := (Grow.refl wr).alloc (.cells #[.int .i64 (k : Int), .int .i64 o2, .int .i64 d2, .int .i64 a2, .int .i64 b2] 27)
          clear hx
          go_wp2_with (at_builtin; refine wpList_appAt _ rfl (.tmp 24) (.tmp 31) 31 rfl w.heap.size 27 Tryz.underlying31 info_ed rfl (by decide) (by decide) encE encE_len encE_one _ (mutM p k ++ (L.take j).map (Ed.mk k)) rfl (hgb2.owns HOW.out) _ (⟨(k : Int), ⟨o2, d2, a2, b2⟩⟩ : Ed) 1 rfl (newsG _ _ (by simp) (encE ⟨(k : Int), ⟨o2, d2, a2, b2⟩⟩) _) HLB.out (by simp; omega) ?_; intro out2 w4 hown2 hgr2 hat2)
          have HG4 := Lib.hid (show Grow w w4 from grown_below HOW.out hgr2 (Nat.le_refl _) (by simp; omega) (HGW.out.trans hgb2))
          have HL4 := Lib.hid (slc_kept (HLW.out.grow hgb2) hgr2 HNW.out)
          have HN4 := Lib.hid (show ∀ b o s, (some (⟨gA, oA, none⟩ : Addr)) = some ⟨b, o, s⟩ → out2.ownBlock ≠ some b from fun b o s h he => by
            rcases hat2 with h2 | h2
            · rw [h2] at he; exact HNW.out b o s h he
            · rw [h2] at he
              cases h
              have := Option.some.inj he
              simp at this
              omega)
          have HO2 := Lib.hid hown2
          clear hown2 hgr2 hat2 f0 f1 f2 f3
          go_roundw
          case rel => exact ⟨j + 1, by omega, by go_num, HG4.out, HL4.out, HN4.out, by rw [HTK.out]; exact HO2.out⟩
          case measure => simp [intOf]; omega
        · have hjn : j = L.length := by omega
          have HO2 := HOW.out
          rw [hjn, List.take_length, ← HSC.out] at HO2
          have HO3 := Lib.hid HO2
          clear HO2 hjn
          go_wp2_with fail
          go_roundw
          case rel => exact ⟨k + 1, _, by omega, by go_num, rfl, HGW.out, HO3.out⟩
          case measure => simp [intOf]; omega
    · have hkn : k = p.length := by omega
      have HO2 := HOW.out
      rw [hkn] at HO2
      have HF := Lib.hid (HR.out _ _ HG.out (slc_of_owns encE_len HO2))
      clear HO2 hkn
      go_wp2_with fail
      exact HF.out

set_option maxHeartbeats 4000000 in
theorem r5Mutants_any (p : List Ln) (pv : Value) (w : World) (hp : LinesAt w pv p) (R : Ending → World → Prop)
    (hR : ∀ w' v, Grow w w' → EditsAt w' v (mutO p) → R (.returned (.tuple #[v, .int .i64 (valP p)])) w') :
    Calls Tryz.prog 17 #[pv] w R := by
  have HP := Lib.hid hp
  rw [show mutO p = ifOK (valP p) (mutM p p.length) from rfl] at hR
  have HR := Lib.hid hR
  obtain ⟨e, he⟩ : ∃ e, valP p = e := ⟨_, rfl⟩
  rw [he] at HR
  have HE := Lib.hid he
  obtain ⟨pa, pc, rfl, _⟩ := hp
  clear hR he
  by_cases h0 : e = 0
  · subst h0
    rw [ifOK_ok] at HR
    go_enter Tryz.func17, Tryz.ntmps17
    go_wp2_with fail
    refine rValidate_any p _ _ HP.out _ ?_
    intro w1 hg1
    rw [HE.out]
    have HG1 := Lib.hid hg1
    clear hg1
    go_wp2_with fail
    refine r5mutants_any p _ _ (HP.out.grow HG1.out) HE.out _ ?_
    intro w2 v2 hg2 hv2
    have HF := Lib.hid (HR.out w2 v2 (HG1.out.trans hg2) hv2)
    clear hg2 hv2
    go_wp2_with fail
    exact HF.out
  · rw [ifOK_err h0] at HR
    have t1 : (e != 0) = true := by simpa using h0
    clear h0
    go_enter Tryz.func17, Tryz.ntmps17
    go_wp2_with fail
    refine rValidate_any p _ _ HP.out _ ?_
    intro w1 hg1
    rw [HE.out]
    have HF := Lib.hid (HR.out w1 (.slice none 0 0) hg1 (SlcAt.nil _ _ _))
    clear hg1
    go_wp2_with fail
    exact HF.out
end Go.Proofs.YtbccbokjecdaaaaGreat

namespace Go.Proofs.YtbccbokjecdaaaaGreat
open Go.RowKit

theorem gcd_step (a b : Nat) : Nat.gcd b (a % b) = Nat.gcd a b := by
  rw [Nat.gcd_comm a b, Nat.gcd_rec b a, Nat.gcd_comm]
/-- How many mutants there are, and how many are killed. -/
def allN (p : List Ln) : Nat := (mutM p p.length).length
def kilN (p : List Ln) (ts : List Tst) : Nat := allN p - (aliveM p ts).length
/-- The error of Score, and the share. -/
def scE (p : List Ln) (ts : List Tst) : Int := if chkT p ts = 0 then (if allN p = 0 then 8 else 0) else chkT p ts
def scN (p : List Ln) (ts : List Tst) : Nat := if scE p ts = 0 then kilN p ts / Nat.gcd (allN p) (kilN p ts) else 0
def scD (p : List Ln) (ts : List Tst) : Nat := if scE p ts = 0 then allN p / Nat.gcd (allN p) (kilN p ts) else 0
def ratV (n d : Nat) : Value := .agg #[.int .i64 n, .int .i64 d]
theorem alive_le (p : List Ln) (ts : List Tst) : (aliveM p ts).length ≤ allN p := List.length_filter_le _ _
def set2 (w : World) (g : Nat) (n d : Nat) : World := (w.setCell ⟨g, 0, none⟩ (.int .i64 n)).setCell ⟨g, 1, none⟩ (.int .i64 d)
def RBlk (w : World) (g : Nat) (n d : Nat) : Prop := w.heap[g]? = some (.cells #[.int .i64 n, .int .i64 d] 44 (0, 0))
theorem RBlk.set {w : World} {g n d : Nat} (h : RBlk w g n d) (n' d' : Nat) : RBlk (set2 w g n' d') g n' d' := by
  have h0 := Go.Joins.block_setCell (i := 0) h (.int .i64 n')
  exact Go.Joins.block_setCell (i := 1) h0 (.int .i64 d')
theorem below_set2 {a w : World} {B g : Nat} (n d : Nat) (h : Below B a w) (hg : B ≤ g) : Below B a (set2 w g n d) :=
  Below.setCell (Below.setCell h hg _) hg _
end Go.Proofs.YtbccbokjecdaaaaGreat

namespace Go.Proofs.YtbccbokjecdaaaaGreat
open Go.RowKit

set_option maxRecDepth 100000 in
set_option maxHeartbeats 8000000 in
theorem Score_any (p : List Ln) (ts : List Tst) (pv tv : Value) (w : World) (hp : LinesAt w pv p) (ht : TestsAt w tv ts) (R : Ending → World → Prop)
    (hR : ∀ w', Grow w w' → R (.returned (.tuple #[.agg #[.int .i64 (scN p ts : Nat), .int .i64 (scD p ts : Nat)], .int .i64 (scE p ts)])) w') :
    Calls Tryz.prog 25 #[pv, tv] w R := by
  have HP := Lib.hid hp
  have HT := Lib.hid ht
  have hn : scN p ts = if scE p ts = 0 then kilN p ts / Nat.gcd (allN p) (kilN p ts) else 0 := rfl
  have hd : scD p ts = if scE p ts = 0 then allN p / Nat.gcd (allN p) (kilN p ts) else 0 := rfl
  have hs : scE p ts = if chkT p ts = 0 then (if allN p = 0 then 8 else 0) else chkT p ts := rfl
  have hk : kilN p ts = allN p - (aliveM p ts).length := rfl
  have hla := alive_le p ts
  rw [hk] at hn hd
  obtain ⟨e, he⟩ : ∃ e, chkT p ts = e := ⟨_, rfl⟩
  have hok := fun h : e = 0 => chkT_ok.1 (he.trans h)
  have hal : e = 0 → aliveO p ts = aliveM p ts := fun h => by unfold aliveO; rw [he, h]; rfl
  rw [he] at hs
  obtain ⟨n, hN⟩ : ∃ n, allN p = n := ⟨_, rfl⟩
  have hnb : e = 0 → n ≤ 8000 := fun h => by
    have h1 := (hok h).1
    have h2 := mutM_len h1 p.length (Nat.le_refl _)
    have h3 := (valP_ok.1 h1).1
    rw [← hN]; unfold allN; omega
  rw [hN] at hs hn hd hla
  obtain ⟨m, hM⟩ : ∃ m, (aliveM p ts).length = m := ⟨_, rfl⟩
  rw [hM] at hn hd hla
  obtain ⟨sn, hsn⟩ : ∃ x, scN p ts = x := ⟨_, rfl⟩
  obtain ⟨sd, hsd⟩ : ∃ x, scD p ts = x := ⟨_, rfl⟩
  obtain ⟨se, hse⟩ : ∃ x, scE p ts = x := ⟨_, rfl⟩
  rw [hse] at hs hn hd hR
  rw [hsn] at hn hR
  rw [hsd] at hd hR
  have HE := Lib.hid he
  have HR := Lib.hid hR
  have HN := Lib.hid hN
  have HM := Lib.hid hM
  obtain ⟨pa, pc, rfl, jk1⟩ := hp
  obtain ⟨⟨ta, tc, rfl, jk2⟩, jk3⟩ := ht
  clear jk1 jk2 jk3
  have HB := Lib.hid (heap_alloc_new w (.cells #[.int .i64 0, .int .i64 0] 44))
  have HG := Lib.hid ((Grow.refl w).alloc (.cells #[.int .i64 0, .int .i64 0] 44))
  clear hR hsn hsd hse he hN hM hk
  by_cases q1 : e = 0
  rotate_left
  · rw [if_neg q1] at hs
    subst hs
    rw [if_neg q1] at hn hd
    subst hn
    subst hd
    have t1 : (se != 0) = true := by simpa using q1
    clear hok hal hnb q1 hla
    go_enter Tryz.func25, Tryz.ntmps25
    go_wp2_with fail
    refine programs_any p ts _ _ _ (HP.out.grow HG.out) (HT.out.grow HG.out) _ ?_
    intro w1 hg1
    rw [HE.out]
    have HB1 := Lib.hid (hg1.blk HB.out)
    have HG1 := Lib.hid (HG.out.trans hg1)
    clear hg1
    obtain ⟨c0, c1⟩ := box2 HB1.out
    have z0 := frz HB1.out 0
    have z1 := frz HB1.out 1
    have hz := lt_of_block HB1.out
    go_wp2_with fail
    refine bodyPost_ret (v := .tuple #[.agg #[.int .i64 0, .int .i64 0], .int .i64 se]) (by simp [results, Tryz.results25, go_sem, c0, c1]) rfl (HR.out _ (below_set2 0 0 HG1.out (Nat.le_refl _)))
  rw [if_pos q1] at hs
  have HV := Lib.hid (hok q1).1
  have HAL := Lib.hid (hal q1)
  have hn8 := hnb q1
  clear hok hal hnb
  subst q1
  by_cases q2 : n = 0
  · rw [if_pos q2] at hs
    subst hs
    rw [if_neg (by decide)] at hn hd
    subst hn
    subst hd
    subst q2
    clear hla hn8
    go_enter Tryz.func25, Tryz.ntmps25
    go_wp2_with fail
    refine programs_any p ts _ _ _ (HP.out.grow HG.out) (HT.out.grow HG.out) _ ?_
    intro w1 hg1
    rw [HE.out]
    have HB1 := Lib.hid (hg1.blk HB.out)
    have HG1 := Lib.hid (HG.out.trans hg1)
    clear hg1
    go_wp2_with fail
    refine mutants_any p _ _ (HP.out.grow HG1.out) HV.out _ ?_
    intro w2 v2 hg2 hv2
    obtain ⟨a2, c2, rfl, r1, r2, jk4⟩ := hv2.edits
    clear hv2 jk4
    rw [show (mutM p p.length).length = 0 from HN.out] at r1 ⊢
    have HB2 := Lib.hid (hg2.blk HB1.out)
    have HG2 := Lib.hid (HG1.out.trans hg2)
    clear hg2
    obtain ⟨c0, c1⟩ := box2 HB2.out
    have z0 := frz HB2.out 0
    have z1 := frz HB2.out 1
    have hz := lt_of_block HB2.out
    go_wp2_with fail
    refine bodyPost_ret (v := .tuple #[.agg #[.int .i64 0, .int .i64 0], .int .i64 8]) (by simp [results, Tryz.results25, go_sem, c0, c1]) rfl (HR.out _ (below_set2 0 0 HG2.out (Nat.le_refl _)))
  rw [if_neg q2] at hs
  subst hs
  rw [if_pos rfl] at hn hd
  have t2 : ¬ (n : Int) = 0 := by omega
  have HW := Lib.hid (Int.ofNat_sub hla)
  have t3 : ((n : Int) == 0) = false := by simpa using q2
  go_enter Tryz.func25, Tryz.ntmps25
  go_wp2_with fail
  refine programs_any p ts _ _ _ (HP.out.grow HG.out) (HT.out.grow HG.out) _ ?_
  intro w1 hg1
  rw [HE.out]
  have HB1 := Lib.hid (hg1.blk HB.out)
  have HG1 := Lib.hid (HG.out.trans hg1)
  clear hg1
  go_wp2_with fail
  refine mutants_any p _ _ (HP.out.grow HG1.out) HV.out _ ?_
  intro w2 v2 hg2 hv2
  obtain ⟨a2, c2, rfl, r1, r2, jk4⟩ := hv2.edits
  clear hv2 jk4
  rw [show (mutM p p.length).length = n from HN.out] at r1 ⊢
  have HB2 := Lib.hid (hg2.blk HB1.out)
  have HG2 := Lib.hid (HG1.out.trans hg2)
  clear hg2
  go_wp2_with fail
  refine Alive_any p ts _ _ _ (HP.out.grow HG2.out) (HT.out.grow HG2.out) _ ?_
  intro w3 v3 hg3 hv3
  rw [HAL.out] at hv3
  rw [HE.out]
  obtain ⟨a3, c3, rfl, y1, y2, jk5⟩ := hv3
  clear jk5
  rw [HM.out] at y1 ⊢
  have HB3 := Lib.hid (hg3.blk HB2.out)
  have HG3 := Lib.hid (HG2.out.trans hg3)
  clear hg3
  go_wp2_with fail
  obtain ⟨G, hG⟩ : ∃ G, Nat.gcd n (n - m) = G := ⟨_, rfl⟩
  have hGp : 0 < G := by rw [← hG]; exact Nat.gcd_pos_of_pos_left _ (by omega)
  rw [hG] at hn hd
  have HGG := Lib.hid hG
  have HSN := Lib.hid hn
  have HSD := Lib.hid hd
  clear hG hn hd
  go_loopw [10, 11] (fun x y wr => ∃ a b : Nat, x = .int .i64 a ∧ y = .int .i64 b ∧ a ≤ 8000 ∧ b ≤ 8000 ∧ Nat.gcd a b = G ∧ Grow w3 wr) (fun _ y _ => (intOf y).toNat)
  case atStart => exact ⟨n, n - m, rfl, by have := HW.out; go_num, hn8, by omega, HGG.out, Grow.refl _⟩
  case round =>
    obtain ⟨a, b, rfl, rfl, ha, hb, hab, hgr⟩ := hrel
    have HAB := Lib.hid hab
    have HGR := Lib.hid hgr
    clear hab hgr
    by_cases hb0 : b = 0
    · subst hb0
      have haG : a = G := by have := HAB.out; simpa using this
      subst haG
      have HB4 := Lib.hid (HGR.out.blk HB3.out)
      have HG4 := Lib.hid (HG3.out.trans HGR.out)
      clear hb
      obtain ⟨c0, c1⟩ := box2 HB4.out
      have z0 := frz HB4.out 0
      have z1 := frz HB4.out 1
      have hz := lt_of_block HB4.out
      have ta : ¬ (a : Int) = 0 := by omega
      have tb : ((a : Int) == 0) = false := by simp; omega
      go_wp2_with fail
      go_region
      go_wp2_with fail
      have e1 : ((n : Int) - (m : Int)) / (a : Int) = (sn : Int) := by rw [← HW.out, HSN.out, Int.natCast_ediv]
      have hdl : n / a ≤ n := Nat.div_le_self _ _
      have hdl0 : (0 : Int) ≤ ((n / a : Nat) : Int) := Int.natCast_nonneg _
      have e2 : wrap64 ((n : Int) / (a : Int)) = (sd : Int) := by rw [HSD.out, ← Int.natCast_ediv]; exact IntWalk.wrap64_in ((n / a : Nat) : Int) (by omega)
      rw [e1, e2]
      have hbk : RBlk (set2 wr w.heap.size sn sd).drew w.heap.size sn sd := ((Grow.refl _).drew).blk (RBlk.set (show RBlk wr w.heap.size 0 0 from HB4.out) sn sd)
      obtain ⟨y0, y1⟩ := box2 hbk
      unfold set2 at y0 y1
      refine bodyPost_ret (v := .tuple #[.agg #[.int .i64 sn, .int .i64 sd], .int .i64 0]) (by simp [results, Tryz.results25, go_sem, y0, y1]) rfl (HR.out _ (Grow.drew (below_set2 sn sd HG4.out (Nat.le_refl _))))
    · have ta : ¬ (b : Int) = 0 := by omega
      have tb : ((b : Int) == 0) = false := by simp; omega
      have tc : ((b : Int) != 0) = true := by simp; omega
      go_wp2_with (go_quiet (fail))
      go_roundw
      case rel =>
        have hlt := Nat.mod_lt a (show b > 0 by omega)
        exact ⟨b, a % b, rfl, by go_num, hb, by omega, by rw [gcd_step]; exact HAB.out, HGR.out.drewN _⟩
      case measure => simp [intOf]; have hlt := Nat.mod_lt a (show b > 0 by omega); omega
end Go.Proofs.YtbccbokjecdaaaaGreat

namespace Go.Proofs.YtbccbokjecdaaaaGreat
open Go.RowKit

/-- A mutant at a place of the program, whose line is valid. -/
theorem mutM_kil {p : List Ln} {ts : List Tst} (hp : valP p = 0) (ht : valT ts = 0) {e : Ed} (h : e ∈ mutM p p.length) : ∃ n : Nat, n < p.length ∧ e.at_ = n ∧ e.l.ok = true ∧ brkO p [e] ts = brkM p (setAll p [e]) ts := by
  obtain ⟨n, x, hn, rfl, hx⟩ := mem_mutM.1 h
  refine ⟨n, hn, rfl, tmpl_ok hx, (brkO_kil (kilE_ok.2 ⟨⟨hp, ht⟩, ⟨by dsimp only; omega, by dsimp only; omega⟩, hx⟩)).2⟩

set_option maxRecDepth 100000 in
set_option maxHeartbeats 16000000 in
theorem r5Alive_any (p : List Ln) (ts : List Tst) (pv tv : Value) (w : World) (hp : LinesAt w pv p) (ht : TestsAt w tv ts) (R : Ending → World → Prop)
    (hR : ∀ w' v, Grow w w' → EditsAt w' v (aliveO p ts) → R (.returned (.tuple #[v, .int .i64 (chkT p ts)])) w') :
    Calls Tryz.prog 24 #[pv, tv] w R := by
  have HP := Lib.hid hp
  have HT := Lib.hid ht
  rw [show aliveO p ts = ifOK (chkT p ts) (keepE (alB p ts) (mutM p p.length)) from rfl] at hR
  have HR := Lib.hid hR
  obtain ⟨e, he⟩ : ∃ e, chkT p ts = e := ⟨_, rfl⟩
  have hok := fun h : e = 0 => chkT_ok.1 (he.trans h)
  rw [he] at HR
  have HE := Lib.hid he
  obtain ⟨pa, pc, rfl, jk1⟩ := hp
  obtain ⟨⟨ta, tc, rfl, jk2⟩, jk3⟩ := ht
  clear hR he jk1 jk2 jk3
  by_cases h0 : e = 0
  rotate_left
  · rw [ifOK_err h0] at HR
    have t1 : (e != 0) = true := by simpa using h0
    clear hok h0
    go_enter Tryz.func24, Tryz.ntmps24
    go_wp2_with fail
    refine r5tested_any p ts _ _ _ HP.out HT.out _ ?_
    intro w1 hg1
    rw [HE.out]
    have HF := Lib.hid (HR.out w1 (.slice none 0 0) hg1 (SlcAt.nil _ _ _))
    clear hg1
    go_wp2_with fail
    exact HF.out
  obtain ⟨hv, hvt⟩ := hok h0
  subst h0
  rw [ifOK_ok] at HR
  have hlen := mutM_len hv p.length (Nat.le_refl _)
  have hp8 := (valP_ok.1 hv).1
  have HK := Lib.hid (fun (e : Ed) h => mutM_kil (ts := ts) hv hvt (e := e) h)
  have HV := Lib.hid hv
  have HVT := Lib.hid hvt
  obtain ⟨M, hM⟩ : ∃ M, mutM p p.length = M := ⟨_, rfl⟩
  rw [hM] at HR HK hlen
  have HM := Lib.hid hM
  have hM8 : M.length ≤ 8000 := by omega
  obtain ⟨F, hF⟩ : ∃ F, alB p ts = F := ⟨_, rfl⟩
  rw [hF] at HR
  have HFF := Lib.hid (fun m : Ed => (congrFun hF m).symm)
  clear hok hv hvt hM hF hlen
  go_enter Tryz.func24, Tryz.ntmps24
  go_wp2_with fail
  refine r5tested_any p ts _ _ _ HP.out HT.out _ ?_
  intro w1 hg1
  rw [HE.out]
  have HG1 := Lib.hid hg1
  clear hg1
  go_wp2_with fail
  refine r5mutants_any p _ _ (HP.out.grow HG1.out) HV.out _ ?_
  intro w2 v2 hg2 hv2
  rw [HM.out] at hv2
  have HX2 := Lib.hid hv2
  obtain ⟨a2, c2, rfl, r1, r2, jk4⟩ := hv2
  have HG2 := Lib.hid (HG1.out.trans hg2)
  clear hg2 jk4
  go_wp2_with fail
  go_loopw [8, 9] (fun out i wr => ∃ k : Nat, k ≤ M.length ∧ i = .int .i64 k ∧ Grow w2 wr ∧ wr.ownsRow w2.heap.size 27 5 out (keepE F (M.take k)).length ((keepE F (M.take k)).flatMap encE)) (fun _ i _ => M.length - (intOf i).toNat)
  case atStart => exact ⟨0, Nat.zero_le _, rfl, Grow.refl _, World.ownsRow_nil _ _ _ _⟩
  case round =>
    obtain ⟨k, hk, rfl, hg, how⟩ := hrel
    have HGX := Lib.hid hg
    have HG := Lib.hid (HG2.out.trans hg)
    have HOW := Lib.hid how
    have hzw := hg.sz
    clear hg how
    by_cases hlt : k < M.length
    · obtain ⟨⟨t, op, d, a, b⟩, hx⟩ : ∃ x, M[k]? = some x := ⟨_, List.getElem?_eq_getElem hlt⟩
      obtain ⟨n, hn, hat, hokl, hbr⟩ := HK.out _ (List.mem_of_getElem? hx)
      dsimp only at hat hokl
      subst hat
      obtain ⟨gb, o, rfl, hb, e0, e1, e2, e3, e4⟩ := edits_at (HX2.out.grow HGX.out) hx
      have hlt2 : (k : Int) < (M.length : Int) := by omega
      have HSN := Lib.hid (keepE_snoc (pr := F) hx)
      have hFm := HFF.out ⟨(n : Int), ⟨op, d, a, b⟩⟩
      rw [show alB p ts ⟨(n : Int), ⟨op, d, a, b⟩⟩ = decide (0 < (brkO p [⟨(n : Int), ⟨op, d, a, b⟩⟩] ts).length) from rfl, hbr] at hFm
      obtain ⟨c, hc⟩ : ∃ c, (brkM p (setAll p [⟨(n : Int), ⟨op, d, a, b⟩⟩]) ts).length = c := ⟨_, rfl⟩
      rw [hc] at hFm
      have HC := Lib.hid hc
      have HFM := Lib.hid hFm
      have HOKL := Lib.hid (show vL op d a b = true from hokl)
      have hle : (keepE F (M.take k)).length ≤ k := Nat.le_trans (List.length_filter_le _ _) (by rw [List.length_take]; omega)
      have HLB := Lib.hid (show (keepE F (M.take k)).length < 100000000000 by omega)
      clear hx hbr hFm hc hokl hle
      go_wp2_with fail
      refine r5kills_any p ts n op d a b _ _ _ (HP.out.grow HG.out) (HT.out.grow HG.out) HV.out HVT.out hn HOKL.out _ ?_
      intro w3 v3 hg3 hv3
      obtain ⟨a3, c3, rfl, jk5⟩ := hv3
      rw [HC.out]
      have f0 := hg3.cell e0
      have f1 := hg3.cell e1
      have f2 := hg3.cell e2
      have f3 := hg3.cell e3
      have f4 := hg3.cell e4
      have hb3 : gb < w3.heap.size := Nat.lt_of_lt_of_le hb hg3.sz
      have HG3 := Lib.hid (HGX.out.trans hg3)
      have HO3 := Lib.hid (hg3.owns HOW.out)
      have hz3 := (HGX.out.trans hg3).sz
      clear hg3 e0 e1 e2 e3 e4 HOW jk5
      by_cases hc0 : c = 0
      · subst hc0
        have HFN := Lib.hid (show F ⟨(n : Int), ⟨op, d, a, b⟩⟩ = false from HFM.out)
        go_wp2_with (at_builtin; refine wpList_app _ rfl (.tmp 33) (.tmp 38) 31 rfl w2.heap.size 27 Tryz.underlying31 info_ed rfl (by decide) (by decide) encE encE_len encE_one _ (keepE F (M.take k)) rfl (((Grow.refl w3).alloc _).owns HO3.out) _ (⟨(n : Int), ⟨op, d, a, b⟩⟩ : Ed) 1 rfl (newsG _ _ (by simp) (encE ⟨(n : Int), ⟨op, d, a, b⟩⟩) _) HLB.out (by simp; omega) ?_; intro out2 w5 hown5 hgr5)
        have HG5 := Lib.hid (show Grow w2 w5 from grown_below HO3.out hgr5 (Nat.le_refl _) (by simp; omega) (HG3.out.alloc _))
        have HO5 := Lib.hid hown5
        clear hown5 hgr5
        go_roundw
        case rel => exact ⟨k + 1, by omega, by go_num, HG5.out, by rw [HSN.out, HFN.out, if_neg (by decide)]; exact HO5.out⟩
        case measure => simp [intOf]; omega
      · have HFN := Lib.hid (show F ⟨(n : Int), ⟨op, d, a, b⟩⟩ = true by rw [HFM.out]; exact decide_eq_true (by omega))
        have t1 : ¬ (c : Int) = 0 := by omega
        have t2 : ((c : Int) == 0) = false := by simpa using hc0
        clear hc0
        go_wp2_with fail
        go_roundw
        case rel => exact ⟨k + 1, by omega, by go_num, HG3.out, by rw [HSN.out, HFN.out, if_pos rfl, List.append_nil]; exact HO3.out⟩
        case measure => simp [intOf]; omega
    · have hkn : k = M.length := by omega
      have HO2 := HOW.out
      rw [hkn, List.take_length] at HO2
      have HF := Lib.hid (HR.out _ _ HG.out (slc_of_owns encE_len HO2))
      clear HO2 hkn
      go_wp2_with fail
      exact HF.out

set_option maxRecDepth 100000 in
set_option maxHeartbeats 8000000 in
theorem r5Ratio_any (k n : Nat) (w : World) (hn : 0 < n) (hk : k ≤ n) (hn8 : n ≤ 8000) (R : Ending → World → Prop)
    (hR : ∀ w', Grow w w' → R (.returned (.agg #[.int .i64 (k / Nat.gcd n k : Nat), .int .i64 (n / Nat.gcd n k : Nat)])) w') :
    Calls Tryz.prog 71 #[.int .i64 k, .int .i64 n] w R := by
  obtain ⟨G, hG⟩ : ∃ G, Nat.gcd n k = G := ⟨_, rfl⟩
  have hGp : 0 < G := by rw [← hG]; exact Nat.gcd_pos_of_pos_left _ hn
  rw [hG] at hR
  have HGG := Lib.hid ((Nat.gcd_comm k n).trans hG)
  obtain ⟨sn, hsn⟩ : ∃ x, k / G = x := ⟨_, rfl⟩
  obtain ⟨sd, hsd⟩ : ∃ x, n / G = x := ⟨_, rfl⟩
  rw [hsn, hsd] at hR
  have HSN := Lib.hid hsn
  have HSD := Lib.hid hsd
  have HR := Lib.hid hR
  have HB := Lib.hid (heap_alloc_new w (.cells #[.int .i64 0, .int .i64 0] 44))
  have HG := Lib.hid ((Grow.refl w).alloc (.cells #[.int .i64 0, .int .i64 0] 44))
  clear hR hG hsn hsd
  go_enter Tryz.func71, Tryz.ntmps71
  go_wp2_with fail
  generalize w.alloc (.cells #[.int .i64 0, .int .i64 0] 44) = W at HB HG ⊢
  go_loopw [5, 6, 7] (fun x y _ wr => ∃ a b : Nat, x = .int .i64 a ∧ y = .int .i64 b ∧ a ≤ 8000 ∧ b ≤ 8000 ∧ Nat.gcd a b = G ∧ Grow W wr) (fun _ y _ _ => (intOf y).toNat)
  case atStart => exact ⟨k, n, rfl, rfl, by omega, hn8, HGG.out, Grow.refl _⟩
  case round =>
    obtain ⟨a, b, rfl, rfl, ha, hb, hab, hgr⟩ := hrel
    have HAB := Lib.hid hab
    have HGR := Lib.hid hgr
    clear hab hgr
    by_cases hb0 : b = 0
    · subst hb0
      have haG : a = G := by have := HAB.out; simpa using this
      subst haG
      have HB4 := Lib.hid (HGR.out.blk HB.out)
      have HG4 := Lib.hid (HG.out.trans HGR.out)
      obtain ⟨c0, c1⟩ := box2 HB4.out
      have z0 := frz HB4.out 0
      have z1 := frz HB4.out 1
      have hz := lt_of_block HB4.out
      have ta : ¬ (a : Int) = 0 := by omega
      have tb : ((a : Int) == 0) = false := by simp; omega
      go_wp2_with fail
      go_region
      go_wp2_with fail
      have hbk : RBlk (set2 wr w.heap.size sn sd).drew w.heap.size sn sd := ((Grow.refl _).drew).blk (RBlk.set (show RBlk wr w.heap.size 0 0 from HB4.out) sn sd)
      obtain ⟨y0, y1⟩ := box2 hbk
      unfold set2 at y0 y1
      have hdl : n / a ≤ n := Nat.div_le_self _ _
      have hdk : k / a ≤ k := Nat.div_le_self _ _
      have hdl0 : (0 : Int) ≤ ((n / a : Nat) : Int) := Int.natCast_nonneg _
      have hdk0 : (0 : Int) ≤ ((k / a : Nat) : Int) := Int.natCast_nonneg _
      have e1 : wrap64 ((k : Int) / (a : Int)) = (sn : Int) := by rw [← HSN.out, ← Int.natCast_ediv]; exact IntWalk.wrap64_in ((k / a : Nat) : Int) (by omega)
      have e2 : wrap64 ((n : Int) / (a : Int)) = (sd : Int) := by rw [← HSD.out, ← Int.natCast_ediv]; exact IntWalk.wrap64_in ((n / a : Nat) : Int) (by omega)
      rw [e1, e2]
      refine bodyPost_ret (v := .agg #[.int .i64 sn, .int .i64 sd]) (by simp [results, Tryz.results71, go_sem, y0, y1]) rfl (HR.out _ (Grow.drew (below_set2 sn sd HG4.out (Nat.le_refl _))))
    · have ta : ¬ (b : Int) = 0 := by omega
      have tb : ((b : Int) == 0) = false := by simp; omega
      have tc : ((b : Int) != 0) = true := by simp; omega
      go_wp2_with fail
      go_roundw
      case rel =>
        have hlt := Nat.mod_lt a (show b > 0 by omega)
        exact ⟨b, a % b, rfl, by go_num, hb, by omega, by rw [gcd_step]; exact HAB.out, HGR.out⟩
      case measure => simp [intOf]; have hlt := Nat.mod_lt a (show b > 0 by omega); omega

set_option maxRecDepth 100000 in
set_option maxHeartbeats 8000000 in
theorem r5Score_any (p : List Ln) (ts : List Tst) (pv tv : Value) (w : World) (hp : LinesAt w pv p) (ht : TestsAt w tv ts) (R : Ending → World → Prop)
    (hR : ∀ w', Grow w w' → R (.returned (.tuple #[.agg #[.int .i64 (scN p ts : Nat), .int .i64 (scD p ts : Nat)], .int .i64 (scE p ts)])) w') :
    Calls Tryz.prog 26 #[pv, tv] w R := by
  have HP := Lib.hid hp
  have HT := Lib.hid ht
  have hn : scN p ts = if scE p ts = 0 then kilN p ts / Nat.gcd (allN p) (kilN p ts) else 0 := rfl
  have hd : scD p ts = if scE p ts = 0 then allN p / Nat.gcd (allN p) (kilN p ts) else 0 := rfl
  have hs : scE p ts = if chkT p ts = 0 then (if allN p = 0 then 8 else 0) else chkT p ts := rfl
  have hk : kilN p ts = allN p - (aliveM p ts).length := rfl
  have hla := alive_le p ts
  rw [hk] at hn hd
  obtain ⟨e, he⟩ : ∃ e, chkT p ts = e := ⟨_, rfl⟩
  have hok := fun h : e = 0 => chkT_ok.1 (he.trans h)
  have hal : e = 0 → aliveO p ts = aliveM p ts := fun h => by unfold aliveO; rw [he, h]; rfl
  rw [he] at hs
  obtain ⟨n, hN⟩ : ∃ n, allN p = n := ⟨_, rfl⟩
  have hnb : e = 0 → n ≤ 8000 := fun h => by
    have h1 := (hok h).1
    have h2 := mutM_len h1 p.length (Nat.le_refl _)
    have h3 := (valP_ok.1 h1).1
    rw [← hN]; unfold allN; omega
  rw [hN] at hs hn hd hla
  obtain ⟨m, hM⟩ : ∃ m, (aliveM p ts).length = m := ⟨_, rfl⟩
  rw [hM] at hn hd hla
  obtain ⟨sn, hsn⟩ : ∃ x, scN p ts = x := ⟨_, rfl⟩
  obtain ⟨sd, hsd⟩ : ∃ x, scD p ts = x := ⟨_, rfl⟩
  obtain ⟨se, hse⟩ : ∃ x, scE p ts = x := ⟨_, rfl⟩
  rw [hse] at hs hn hd hR
  rw [hsn] at hn hR
  rw [hsd] at hd hR
  have HE := Lib.hid he
  have HR := Lib.hid hR
  have HN := Lib.hid hN
  have HM := Lib.hid hM
  obtain ⟨pa, pc, rfl, jk1⟩ := hp
  obtain ⟨⟨ta, tc, rfl, jk2⟩, jk3⟩ := ht
  have HB := Lib.hid (heap_alloc_new w (.cells #[.int .i64 0, .int .i64 0] 44))
  have HG := Lib.hid ((Grow.refl w).alloc (.cells #[.int .i64 0, .int .i64 0] 44))
  clear hR hsn hsd hse he hN hM hk jk1 jk2 jk3
  by_cases q1 : e = 0
  rotate_left
  · rw [if_neg q1] at hs
    subst hs
    rw [if_neg q1] at hn hd
    subst hn
    subst hd
    have t1 : (se != 0) = true := by simpa using q1
    clear hok hal hnb q1 hla
    go_enter Tryz.func26, Tryz.ntmps26
    go_wp2_with fail
    refine r5Alive_any p ts _ _ _ (HP.out.grow HG.out) (HT.out.grow HG.out) _ ?_
    intro w1 v1 hg1 hv1
    rw [HE.out]
    have HB1 := Lib.hid (hg1.blk HB.out)
    have HG1 := Lib.hid (HG.out.trans hg1)
    clear hg1
    obtain ⟨a1, c1, rfl, jk4⟩ := hv1
    clear jk4
    obtain ⟨c0, c1⟩ := box2 HB1.out
    have z0 := frz HB1.out 0
    have z1 := frz HB1.out 1
    have hz := lt_of_block HB1.out
    go_wp2_with fail
    refine bodyPost_ret (v := .tuple #[.agg #[.int .i64 0, .int .i64 0], .int .i64 se]) (by simp [results, Tryz.results26, go_sem, c0, c1]) rfl (HR.out _ (below_set2 0 0 HG1.out (Nat.le_refl _)))
  rw [if_pos q1] at hs
  have HV := Lib.hid (hok q1).1
  have HAL := Lib.hid (hal q1)
  have hn8 := hnb q1
  clear hok hal hnb
  subst q1
  by_cases q2 : n = 0
  · rw [if_pos q2] at hs
    subst hs
    rw [if_neg (by decide)] at hn hd
    subst hn
    subst hd
    subst q2
    clear hla hn8
    go_enter Tryz.func26, Tryz.ntmps26
    go_wp2_with fail
    refine r5Alive_any p ts _ _ _ (HP.out.grow HG.out) (HT.out.grow HG.out) _ ?_
    intro w1 v1 hg1 hv1
    rw [HE.out]
    have HB1 := Lib.hid (hg1.blk HB.out)
    have HG1 := Lib.hid (HG.out.trans hg1)
    clear hg1
    rw [HAL.out] at hv1
    obtain ⟨a1, c1, rfl, s1, s2, jk4⟩ := hv1
    clear jk4
    rw [HM.out] at s1 ⊢
    go_wp2_with fail
    refine r5mutants_any p _ _ (HP.out.grow HG1.out) HV.out _ ?_
    intro w2 v2 hg2 hv2
    obtain ⟨a2, c2, rfl, r1, r2, jk4⟩ := hv2
    clear jk4
    rw [show (mutM p p.length).length = 0 from HN.out] at r1 ⊢
    have HB2 := Lib.hid (hg2.blk HB1.out)
    have HG2 := Lib.hid (HG1.out.trans hg2)
    clear hg2
    obtain ⟨c0, c1⟩ := box2 HB2.out
    have z0 := frz HB2.out 0
    have z1 := frz HB2.out 1
    have hz := lt_of_block HB2.out
    go_wp2_with fail
    refine bodyPost_ret (v := .tuple #[.agg #[.int .i64 0, .int .i64 0], .int .i64 8]) (by simp [results, Tryz.results26, go_sem, c0, c1]) rfl (HR.out _ (below_set2 0 0 HG2.out (Nat.le_refl _)))
  rw [if_neg q2] at hs
  subst hs
  rw [if_pos rfl] at hn hd
  have t2 : ¬ (n : Int) = 0 := by omega
  have t3 : ((n : Int) == 0) = false := by simpa using q2
  have hw := Int.ofNat_sub hla
  have hnp : 0 < n := by omega
  have hkn : n - m ≤ n := by omega
  have HSN := Lib.hid hn
  have HSD := Lib.hid hd
  clear hn hd
  have HW := Lib.hid hw
  clear hw
  go_enter Tryz.func26, Tryz.ntmps26
  go_wp2_with fail
  refine r5Alive_any p ts _ _ _ (HP.out.grow HG.out) (HT.out.grow HG.out) _ ?_
  intro w1 v1 hg1 hv1
  rw [HE.out]
  have HB1 := Lib.hid (hg1.blk HB.out)
  have HG1 := Lib.hid (HG.out.trans hg1)
  clear hg1
  rw [HAL.out] at hv1
  obtain ⟨a1, c1, rfl, s1, s2, jk4⟩ := hv1
  clear jk4
  rw [HM.out] at s1 ⊢
  go_wp2_with fail
  refine r5mutants_any p _ _ (HP.out.grow HG1.out) HV.out _ ?_
  intro w2 v2 hg2 hv2
  obtain ⟨a2, c2, rfl, r1, r2, jk4⟩ := hv2
  clear jk4
  rw [show (mutM p p.length).length = n from HN.out] at r1 ⊢
  have HB2 := Lib.hid (hg2.blk HB1.out)
  have HG2 := Lib.hid (HG1.out.trans hg2)
  clear hg2
  have HWW := Lib.hid (show IntKind.i64.wrap ((n : Int) - (m : Int)) = ((n - m : Nat) : Int) by rw [HW.out]; exact IntWalk.i64_in _ (by omega))
  go_wp2_with fail
  first | rw [HWW.out] | rw [← HW.out]
  refine r5Ratio_any (n - m) n _ hnp hkn hn8 _ ?_
  intro w3 hg3
  rw [← HSN.out, ← HSD.out]
  have HB3 := Lib.hid (hg3.blk HB2.out)
  have HG3 := Lib.hid (HG2.out.trans hg3)
  clear hg3
  obtain ⟨c0, c1⟩ := box2 HB3.out
  have z0 := frz HB3.out 0
  have z1 := frz HB3.out 1
  have hz := lt_of_block HB3.out
  have hbk : RBlk (set2 w3 w.heap.size sn sd) w.heap.size sn sd := RBlk.set (show RBlk w3 w.heap.size 0 0 from HB3.out) sn sd
  obtain ⟨y0, y1⟩ := box2 hbk
  unfold set2 at y0 y1
  go_wp2_with fail
  refine bodyPost_ret (v := .tuple #[.agg #[.int .i64 sn, .int .i64 sd], .int .i64 0]) (by simp [results, Tryz.results26, go_sem, y0, y1]) rfl (HR.out _ (below_set2 sn sd HG3.out (Nat.le_refl _)))
end Go.Proofs.YtbccbokjecdaaaaGreat

namespace Go.Proofs.YtbccbokjecdaaaaGreat
open Go.RowKit

theorem rawT_len (l : Ln) : (rawT l).length ≤ 20 := by
  have h1 : (fldL l.op).length ≤ 3 := by unfold fldL; split <;> (try split) <;> (try split) <;> (try split) <;> simp
  have h2 : ((fldL l.op).flatMap (fun k => [setF l k 0, setF l k 1, setF l k 2, setF l k 3])).length ≤ 12 := by
    rw [List.length_flatMap]
    have : ∀ xs : List Nat, ((xs.map fun k => [setF l k 0, setF l k 1, setF l k 2, setF l k 3].length).sum) = xs.length * 4 := by
      intro xs; induction xs with
      | nil => rfl
      | cons x r ih => rw [List.map_cons, List.sum_cons, ih, List.length_cons]; simp; omega
    rw [this]; omega
  unfold rawT
  rw [List.length_append, List.length_append, List.length_append]
  have h3 : (if 3 ≤ l.op then [(⟨l.op, l.d, l.b, l.a⟩ : Ln)] else []).length ≤ 1 := by split <;> simp
  have h4 : (if 3 ≤ l.op ∧ l.op ≤ 6 then [(⟨3, l.d, l.a, l.b⟩ : Ln), ⟨4, l.d, l.a, l.b⟩, ⟨5, l.d, l.a, l.b⟩, ⟨6, l.d, l.a, l.b⟩] else []).length ≤ 4 := by split <;> simp
  simp only [List.length_cons, List.length_nil]
  omega
theorem tmpl_short (l : Ln) : (tmpl l).length ≤ 20 := by
  unfold tmpl
  split
  · simp
  · unfold validL
    exact Nat.le_trans (ordL_len _) (Nat.le_trans (List.length_filter_le _ _) (rawT_len l))
theorem mutM_short (p : List Ln) : ∀ k, (mutM p k).length ≤ k * 20
  | 0 => by simp [mutM]
  | k + 1 => by
    rw [mutM_succ, List.length_append, List.length_map]
    have := mutM_short p k
    have := tmpl_short (lineAt p (k : Int))
    omega
theorem whereL_take {α : Type} (f : α → Bool) (ts : List α) (k : Nat) (h : k ≤ ts.length) : (whereL f (ts.take k)).length ≤ (whereL f ts).length := by
  have e1 : whereL f (ts.take k) = whereN f ts k := by
    unfold whereL whereN
    rw [List.length_take, Nat.min_eq_left h]
    refine fmap_congr _ fun j hj => ?_
    have := List.mem_range.1 hj
    rw [List.getElem?_take_of_lt this]
  have e2 : whereL f ts = whereN f ts ts.length := rfl
  rw [e1, e2]
  unfold whereN
  obtain ⟨d, hd⟩ : ∃ d, ts.length = k + d := ⟨ts.length - k, by omega⟩
  rw [hd, List.range_add, List.filterMap_append, List.length_append]
  omega
theorem valT_take {ts : List Tst} (h : valT ts = 0) (k : Nat) : valT (ts.take k) = 0 := by
  obtain ⟨h1, h2⟩ := valT_ok.1 h
  exact valT_ok.2 ⟨by rw [List.length_take]; omega, fun t ht => h2 t (List.mem_of_mem_take ht)⟩
theorem filter_le_of {α : Type} {f g : α → Bool} : ∀ xs : List α, (∀ x ∈ xs, f x = true → g x = true) → (xs.filter f).length ≤ (xs.filter g).length
  | [], _ => by simp
  | x :: r, h => by
    have ih := filter_le_of r fun y hy => h y (by simp [hy])
    rw [List.filter_cons, List.filter_cons]
    have hx := h x (by simp)
    cases hf : f x with
    | true => rw [hx hf]; simp; exact ih
    | false =>
      cases hg : g x with
      | true => simp; omega
      | false => simpa using ih
theorem alive_take {p : List Ln} {ts : List Tst} (hp : valP p = 0) (ht : valT ts = 0) (k : Nat) (hk : k ≤ ts.length) : (aliveM p ts).length ≤ (aliveM p (ts.take k)).length := by
  unfold aliveM keepE
  refine filter_le_of _ fun e he h => ?_
  obtain ⟨_, _, _, _, h1⟩ := mutM_kil (ts := ts) hp ht he
  obtain ⟨_, _, _, _, h2⟩ := mutM_kil (ts := ts.take k) hp (valT_take ht k) he
  unfold alB at h ⊢
  rw [h1] at h
  rw [h2]
  have h3 : (brkM p (setAll p [e]) (ts.take k)).length ≤ (brkM p (setAll p [e]) ts).length := whereL_take _ ts k hk
  simp only [Bool.not_eq_true', decide_eq_false_iff_not] at h ⊢
  omega
/-- What the statement asks of the shares with all tests and with one less. -/
theorem score_law {p : List Ln} {ts : List Tst} (h : scE p ts = 0) (k : Nat) (hk : k ≤ ts.length) :
    scE p (ts.take k) = 0 ∧ (1 ≤ scD p (ts.take k) ∧ scD p (ts.take k) ≤ 1000) ∧ (1 ≤ scD p ts ∧ scD p ts ≤ 1000) ∧ scN p (ts.take k) ≤ 1000 ∧ scN p ts ≤ scD p ts ∧ scN p (ts.take k) * scD p ts ≤ scN p ts * scD p (ts.take k) := by
  have hc : chkT p ts = 0 := by
    unfold scE at h; split at h
    · assumption
    · exact absurd h (by assumption)
  have hn : allN p ≠ 0 := by
    intro hz; unfold scE at h; rw [if_pos hc, if_pos hz] at h; cases h
  obtain ⟨hv, hvt⟩ := chkT_ok.1 hc
  have hc2 : chkT p (ts.take k) = 0 := chkT_ok.2 ⟨hv, valT_take hvt k⟩
  have h2 : scE p (ts.take k) = 0 := by unfold scE; rw [if_pos hc2, if_neg hn]
  have hal := alive_take hv hvt k hk
  have hb1 := alive_le p ts
  have hb2 := alive_le p (ts.take k)
  have hsz : allN p ≤ 1000 := by
    have h3 := mutM_short p p.length
    have h4 := (valP_ok.1 hv).1
    unfold allN; omega
  refine ⟨h2, ?_⟩
  unfold scD scN
  rw [if_pos h, if_pos h, if_pos h2, if_pos h2]
  have hk1 : kilN p (ts.take k) ≤ kilN p ts := by unfold kilN; omega
  have hk2 : kilN p ts ≤ allN p := by unfold kilN; omega
  generalize kilN p (ts.take k) = K' at hk1 ⊢
  generalize kilN p ts = K at hk1 hk2 ⊢
  generalize allN p = n at hn hsz hk2 ⊢
  have key : ∀ c, c ≤ n → 0 < Nat.gcd n c ∧ c / Nat.gcd n c * Nat.gcd n c = c ∧ n / Nat.gcd n c * Nat.gcd n c = n ∧ 1 ≤ n / Nat.gcd n c ∧ n / Nat.gcd n c ≤ 1000 ∧ c / Nat.gcd n c ≤ n / Nat.gcd n c := by
    intro c hcn
    have hg : 0 < Nat.gcd n c := Nat.gcd_pos_of_pos_left _ (by omega)
    refine ⟨hg, Nat.div_mul_cancel (Nat.gcd_dvd_right _ _), Nat.div_mul_cancel (Nat.gcd_dvd_left _ _), Nat.div_pos (Nat.le_of_dvd (by omega) (Nat.gcd_dvd_left _ _)) hg, Nat.le_trans (Nat.div_le_self _ _) hsz, Nat.div_le_div_right hcn⟩
  obtain ⟨g1, a1, a2, a3, a4, a5⟩ := key K' (by omega)
  obtain ⟨g2, b1, b2, b3, b4, b5⟩ := key K hk2
  generalize Nat.gcd n K' = G' at *
  generalize Nat.gcd n K = G at *
  generalize K' / G' = N' at *
  generalize n / G' = D' at *
  generalize K / G = N at *
  generalize n / G = D at *
  refine ⟨⟨a3, a4⟩, ⟨b3, b4⟩, by omega, b5, ?_⟩
  have hm : (N' * D) * (G' * G) ≤ (N * D') * (G' * G) := by
    calc (N' * D) * (G' * G) = (N' * G') * (D * G) := by simp only [Nat.mul_left_comm, Nat.mul_comm]
      _ = K' * n := by rw [a1, b2]
      _ ≤ K * n := Nat.mul_le_mul_right _ hk1
      _ = (N * G) * (D' * G') := by rw [b1, a2]
      _ = (N * D') * (G' * G) := by simp only [Nat.mul_left_comm, Nat.mul_comm]
  exact Nat.le_of_mul_le_mul_right hm (Nat.mul_pos g1 g2)
/-- The first tests of a list, as a list of its own with no room behind. -/
theorem tests_take {w : World} {a : Option Addr} {c : Nat} {ts : List Tst} (h : TestsAt w (.slice a ts.length c) ts) (k : Nat) (hk : k ≤ ts.length) : TestsAt w (.slice a k k) (ts.take k) := by
  obtain ⟨⟨a', c', e, h1, h2, h3⟩, hin⟩ := h
  cases e
  have hl : (ts.take k).length = k := by rw [List.length_take]; omega
  refine ⟨⟨a, k, by rw [hl], by omega, by omega, ?_⟩, fun t ht => hin t (List.mem_of_mem_take ht)⟩
  rcases h3 with ⟨h3, h4⟩ | ⟨b, o, rfl, hb, hc⟩
  · subst h3
    have hk0 : k = 0 := by simpa using hk
    subst hk0
    exact .inl ⟨rfl, fun _ => rfl⟩
  · refine .inr ⟨b, o, rfl, hb, fun j x hx => hc j x ?_⟩
    rw [List.getElem?_take] at hx
    split at hx
    · exact hx
    · cases hx
end Go.Proofs.YtbccbokjecdaaaaGreat
