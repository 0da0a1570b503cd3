/- The walks of package blame: the search for the sets that hit a family. -/
import Derived.Test.YtmlbgfnddgbpbaaGreatD14
import Derived.Test.YtmlbgfnddgbpbaaGreatD16
import Derived.Test.YtmlbgfnddgbpbaaGreatD05
import Derived.StillTailTactics
namespace Go.Proofs.YtmlbgfnddgbpbaaGreat
open Go.RowKit
open Mk Bm

/-- What grow has captured: the cells that hold its variables, and the list of sets. -/
def growV (bf bfb bsb bg : Nat) : Value := .func (.func 113) #[] #[.pointer (some ⟨bsb, 0, none⟩), .pointer (some ⟨bf, 0, none⟩), .pointer (some ⟨bfb, 0, none⟩), .pointer (some ⟨bg, 0, none⟩)]
structure GrowI (F : List Nat) (fv : Value) (bf bfm bfb bsm bsb bg : Nat) (W : World) : Prop where
  hf : W.heap[bf]? = some (.cells #[fv] 29 (0, 0))
  hfb : W.heap[bfb]? = some (.cells #[.map (some bfm)] 105 (0, 0))
  hsb : W.heap[bsb]? = some (.cells #[.map (some bsm)] 105 (0, 0))
  hg : W.heap[bg]? = some (.cells #[growV bf bfb bsb bg] 106 (0, 0))
  hv : IntsAt W fv (nI F)
/-- The maps lie apart from all that. -/
structure GrowN (F : List Nat) (fv : Value) (bf bfm bfb bsm bsb bg : Nat) : Prop where
  m1 : bf ≠ bsm ∧ bf ≠ bfm
  m2 : bfb ≠ bsm ∧ bfb ≠ bfm
  m3 : bsb ≠ bsm ∧ bsb ≠ bfm
  m4 : bg ≠ bsm ∧ bg ≠ bfm
  m5 : bsm ≠ bfm
  m6 : nI F ≠ [] → ∀ b o, (∃ n c, fv = .slice (some ⟨b, o, none⟩) n c) → b ≠ bsm ∧ b ≠ bfm
theorem GrowI.but {F : List Nat} {fv : Value} {bf bfm bfb bsm bsb bg : Nat} {W W' : World} (h : GrowI F fv bf bfm bfb bsm bsb bg W) (n : GrowN F fv bf bfm bfb bsm bsb bg) (g : But bsm bfm W W') : GrowI F fv bf bfm bfb bsm bsb bg W' :=
  ⟨g.blk h.hf n.m1.1 n.m1.2, g.blk h.hfb n.m2.1 n.m2.2, g.blk h.hsb n.m3.1 n.m3.2, g.blk h.hg n.m4.1 n.m4.2, g.slc h.hv n.m6⟩
theorem bl11_any (x m : Int) (b : Nat) (w : World) (hb : w.heap[b]? = some (.cells #[.int .i64 m] 3 (0, 0))) (R : Ending → World → Prop) (hR : R (.returned (.bool (hitI m x))) w) :
    Calls Tryz.prog 115 #[.int .i64 x, .pointer (some ⟨b, 0, none⟩)] w R := by
  have e0 := box1 hb
  have hz := lt_of_block hb
  have HR := Lib.hid hR
  clear hR hb
  go_enter Tryz.func115, Tryz.ntmps115
  go_wp2_with fail
  exact HR.out
theorem idx_none {pr : Int → Bool} {xs : List Int} (h : xs.any pr = false) : idxI pr xs = -1 := by unfold idxI; rw [h]; rfl
theorem idx_some {pr : Int → Bool} {xs : List Int} (h : xs.any pr = true) : ∃ k x, idxI pr xs = (k : Nat) ∧ xs[k]? = some x ∧ pr x = true := by
  have hlt : xs.findIdx pr < xs.length := List.findIdx_lt_length_of_exists (by obtain ⟨x, hx, hp⟩ := List.any_eq_true.1 h; exact ⟨x, hx, hp⟩)
  exact ⟨xs.findIdx pr, xs[xs.findIdx pr], by unfold idxI; rw [h]; rfl, List.getElem?_eq_getElem hlt, List.findIdx_getElem⟩
theorem nI_inv {F : List Nat} {k : Nat} {x : Int} (h : (nI F)[k]? = some x) : ∃ y, F[k]? = some y ∧ x = (y : Int) := by
  unfold nI at h
  rw [List.getElem?_map] at h
  cases hy : F[k]? with
  | none => rw [hy] at h; cases h
  | some y => rw [hy] at h; exact ⟨y, rfl, (Option.some.inj h).symm⟩
theorem or_bit {m q : Nat} (hm : m < 256) (hq : q < 8) (hb : m.testBit q = false) : m < m ||| 2 ^ q ∧ m ||| 2 ^ q < 256 := by
  refine ⟨?_, Nat.or_lt_two_pow (n := 8) hm (pow_lt8 hq)⟩
  have hle : m ≤ m ||| 2 ^ q := Nat.left_le_or
  have hne : m ≠ m ||| 2 ^ q := fun e => by
    have : (m ||| 2 ^ q).testBit q = true := by rw [Nat.testBit_or, Nat.testBit_two_pow]; simp
    rw [← e, hb] at this; cases this
  omega

set_option maxRecDepth 100000 in
set_option maxHeartbeats 16000000 in
theorem grow_any (F : List Nat) (hF : ∀ x ∈ F, x < 256) (fv : Value) (bf bfm bfb bsm bsb bg : Nat) (hN : GrowN F fv bf bfm bfb bsm bsb bg) : ∀ (d m : Nat), 256 ≤ m + d → m < 256 → ∀ (Sn Fd : Nat → Bool) (w : World), GrowI F fv bf bfm bfb bsm bsb bg w → SetAt w bsm Sn → SetAt w bfm Fd → (∀ x, Fd x = true → Sn x = true) →
    ∀ R : Ending → World → Prop, (∀ w' Sn' Fd', But bsm bfm w w' → SetAt w' bsm Sn' → SetAt w' bfm Fd' → (∀ x, Fd' x = true → Sn' x = true) → Step F Sn Fd Sn' Fd' → Sn' m = true → R (.returned (.tuple #[])) w') →
    Calls Tryz.prog 113 #[.int .i64 (m : Int), .pointer (some ⟨bsb, 0, none⟩), .pointer (some ⟨bf, 0, none⟩), .pointer (some ⟨bfb, 0, none⟩), .pointer (some ⟨bg, 0, none⟩)] w R := by
  intro d
  induction d with
  | zero => intro m h1 h2; omega
  | succ d ih =>
    intro m hd hm Sn Fd w hI hs hf hsub R hR
    have heg : Enters Tryz.prog 115 := enters_of Tryz.func115 (by kernel_rfl) rfl
    have HEG := Lib.hid heg
    clear heg
    have HN := Lib.hid hN
    have HFL := Lib.hid hF
    have IH := Lib.hid ih
    have HR := Lib.hid hR
    have HSUB := Lib.hid hsub
    have hg1 := (Grow.refl w).alloc (.cells #[.int .i64 (m : Int)] 3)
    have hb1 := heap_alloc_new w (.cells #[.int .i64 (m : Int)] 3)
    have hbu : But bsm bfm w (w.alloc (.cells #[.int .i64 (m : Int)] 3)) := But.of_grow hg1
    have hI1 := hI.but hN hbu
    have hs1 := hs.grow hg1
    have hf1 := hf.grow hg1
    have hbs : w.heap.size ≠ bsm ∧ w.heap.size ≠ bfm := ⟨by have := hs.lt; omega, by have := hf.lt; omega⟩
    have hz1 : (w.alloc (.cells #[.int .i64 (m : Int)] 3)).heap.size = w.heap.size + 1 := by simp
    clear hI hs hf hg1 hR hsub hN hF ih
    have c1 := box1 hI1.hsb
    have c1z := lt_of_block hI1.hsb
    have c5 := box1 hb1
    have c5z := lt_of_block hb1
    have hlook := hs1.look hm
    cases hS : Sn m with
    | true =>
      rw [hS] at hlook
      have HF := Lib.hid (HR.out _ Sn Fd hbu hs1 hf1 HSUB.out (Step.refl _ _ _) hS)
      clear hS hb1 hbu hI1 hs1 hf1 hbs
      go_enter Tryz.func113, Tryz.ntmps113
      go_wp2_with fail
      exact bodyPost_ret (v := .tuple #[]) (by simp [results, Tryz.results113, go_sem]) rfl HF.out
    | false =>
      rw [hS] at hlook
      have HS := Lib.hid hS
      have HB1 := Lib.hid hb1
      have HBU := Lib.hid hbu
      have HI1 := Lib.hid hI1
      have HS1 := Lib.hid hs1
      have HF1 := Lib.hid hf1
      clear hS hb1 hbu hI1 hs1 hf1
      go_enter Tryz.func113, Tryz.ntmps113
      go_wp2_with (at_mapUpdate; refine Classical.byContradiction (fun hcon => ?_))
      refine hcon ?_
      clear hcon
      refine wpList_setAdd rfl _ _ _ rfl bsm Sn rfl HS1.out m hm HS.out rfl rfl ?_
      intro w2 hs2 hgr2
      have hbu2 : But bsm bfm (w.alloc (.cells #[.int .i64 (m : Int)] 3)) w2 := But.of_r hgr2
      have hI2 := HI1.out.but HN.out hbu2
      have hb2 := hbu2.blk HB1.out hbs.1 hbs.2
      have hz2 := hbu2.size
      have HF2 := Lib.hid (HF1.out.kept hgr2 (by have := HN.out.m5; intro e; exact this (Option.some.inj e).symm))
      have HBU2 := Lib.hid (HBU.out.trans hbu2)
      have HS2 := Lib.hid hs2
      have d2 := box1 hI2.hf
      have d2z := lt_of_block hI2.hf
      have HI2 := Lib.hid hI2
      have HB2 := Lib.hid hb2
      have hp : PredI 115 (#[] ++ #[.pointer (some ⟨w.heap.size, 0, none⟩)]) w2 (hitI (m : Int)) := fun x W' hg' R hR => bl11_any x m _ W' (hg'.blk hb2) R (hR W' (Grow.refl _))
      have HP := Lib.hid hp
      clear hs2 hgr2 hbu2 hI2 hb2 hp c1 c5 c1z c5z hlook HI1 HB1 HF1 HBU HS1 hz1
      obtain ⟨fa, fc, hfv, fq1, fq2, _⟩ := HI2.out.hv
      rw [hfv] at d2
      go_wp2_with fail
      have hv2 := HI2.out.hv
      rw [hfv] at hv2
      refine indexFuncI_any 115 _ HEG.out (hitI (m : Int)) (nI F) _ _ hv2 HP.out _ ?_
      intro w3 hg3
      have hbu3 : But bsm bfm w2 w3 := But.of_grow hg3
      have hI3 := HI2.out.but HN.out hbu3
      have HI3 := Lib.hid hI3
      have hb3 := HB2.out
      have hb3 := hg3.blk hb3
      have HB3 := Lib.hid hb3
      have HS3 := Lib.hid (HS2.out.grow hg3)
      have HF3 := Lib.hid (HF2.out.grow hg3)
      have HBU3 := Lib.hid (HBU2.out.trans hbu3)
      have d3 := box1 hI3.hfb
      have d3z := lt_of_block hI3.hfb
      have d4 := box1 hb3
      have d4z := lt_of_block hb3
      have d5 := box1 hI3.hf
      have d5z := lt_of_block hI3.hf
      rw [hfv] at d5
      have HAN := Lib.hid (hitI_any HFL.out hm)
      clear hv2 hg3 hbu3 hI3 hb3 d2 d2z
      cases hh : hit F m with
      | true =>
        have han := HAN.out
        rw [hh] at han
        rw [idx_none han]
        have HH := Lib.hid hh
        clear han hh
        go_wp2_with (at_mapUpdate; refine Classical.byContradiction (fun hcon => ?_))
        refine hcon ?_
        clear hcon
        have hfm : Fd m = false := by
          cases hb : Fd m with
          | false => rfl
          | true => have := HSUB.out m hb; rw [HS.out] at this; cases this
        refine wpList_setAdd rfl _ _ _ rfl bfm Fd rfl HF3.out m hm hfm rfl rfl ?_
        intro w4 hf4 hgr4
        have HFF := Lib.hid (HR.out w4 (addS Sn m) (addS Fd m) (HBU3.out.trans (But.of_s hgr4)) (HS3.out.kept hgr4 (by have := HN.out.m5; intro e; exact this (Option.some.inj e))) hf4 (fun x hx => by
          rcases addS_iff.1 hx with e | e
          · exact addS_iff.2 (.inl e)
          · exact addS_iff.2 (.inr (HSUB.out x e))) (Step.found HS.out HH.out) (addS_same _ _))
        clear hf4 hgr4 hfm
        go_wp2_with fail
        exact bodyPost_ret (v := .tuple #[]) (by simp [results, Tryz.results113, go_sem]) rfl HFF.out
      | false =>
        have han := HAN.out
        rw [hh] at han
        obtain ⟨k, xi, hik, hxk, hpx⟩ := idx_some han
        obtain ⟨y, hy, rfl⟩ := nI_inv hxk
        rw [hik]
        have hy256 := HFL.out y (List.mem_of_getElem? hy)
        have hym : y &&& m = 0 := by
          have h1 : (bits .and .i64 (y : Int) (m : Int) == 0) = true := hpx
          rw [and_is hy256 hm] at h1
          exact of_decide_eq_true h1
        have hkl : k < F.length := (List.getElem?_eq_some_iff.1 hy).1
        have HYF := Lib.hid (List.mem_of_getElem? hy)
        have HYM := Lib.hid hym
        have hv3 := HI3.out.hv
        rw [hfv] at hv3
        obtain ⟨gb, go, hfa, hgb, e0⟩ := ints_at hv3 hxk
        rw [hfa] at d5
        have hk0 : ¬ (k : Int) < 0 := by omega
        have hk00 : decide ((k : Int) < 0) = false := decide_eq_false hk0
        have hk1 : (k : Int) < ((nI F).length : Int) := by rw [nI_len]; omega
        clear han hik hxk hpx hy hv3 hh hym HP HB2 HI2 HF2 HS2 HBU2
        go_wp2_with fail
        refine members_any y hy256 _ _ ?_
        intro w4 v4 hg4 hv4
        have hbu4 : But bsm bfm w3 w4 := But.of_grow hg4
        have HI4 := Lib.hid (HI3.out.but HN.out hbu4)
        have HB4 := Lib.hid (hg4.blk HB3.out)
        have HS4 := Lib.hid (HS3.out.grow hg4)
        have HF4 := Lib.hid (HF3.out.grow hg4)
        have HBU4 := Lib.hid (HBU3.out.trans hbu4)
        have hsm := HS3.out.lt
        have hfm := HF3.out.lt
        have hx4 := hv4.slc encI_len
        obtain ⟨a4, c4, hve, q1, q2, jk4⟩ := hx4
        rw [hve] at hv4
        have hof4 := own_blk2 hv4
        have HX4 := Lib.hid (hv4.slc encI_len)
        have HN4 := Lib.hid (show lst y ≠ [] → ∀ b o, (∃ n c, (Value.slice a4 (lst y).length c4) = .slice (some ⟨b, o, none⟩) n c) → b ≠ bsm ∧ b ≠ bfm from fun _ b o ⟨n, c, e⟩ => by
          cases e
          have := hof4 b o none rfl
          exact ⟨by omega, by omega⟩)
        subst hve
        have hwb : w.heap.size < w4.heap.size := lt_of_block HB4.out
        have HMEM := Lib.hid (fun (i : Int) (h : i ∈ lst y) => mem_mem.1 h)
        clear jk4 hof4 hv4 hg4 hbu4 d3 d3z d4 d4z d5 d5z e0 hgb HI3 HB3 HS3 HF3 HBU3
        go_wp2_with fail
        go_loopw [8, 27] (fun _ i wr => ∃ (j : Nat) (Sn' Fd' : Nat → Bool), j ≤ (lst y).length ∧ i = .int .i64 j ∧ But bsm bfm w4 wr ∧ SetAt wr bsm Sn' ∧ SetAt wr bfm Fd' ∧ (∀ x, Fd' x = true → Sn' x = true) ∧ Step F (addS Sn m) Fd Sn' Fd' ∧ ∀ q ∈ (lst y).take j, Sn' (m ||| 2 ^ q.toNat) = true) (fun _ i _ => (lst y).length - (intOf i).toNat)
        case atStart => exact ⟨0, addS Sn m, Fd, Nat.zero_le _, rfl, But.refl _, HS4.out, HF4.out, fun x hx => addS_iff.2 (.inr (HSUB.out x hx)), Step.refl _ _ _, by simp⟩
        case round =>
          obtain ⟨j, Sn1, Fd1, hj, rfl, hbw, hsw, hfw, hsub1, hst, hall⟩ := hrel
          have HBW := Lib.hid hbw
          have HSW := Lib.hid hsw
          have HFW := Lib.hid hfw
          have HSUB1 := Lib.hid hsub1
          have HST := Lib.hid hst
          have HALL := Lib.hid hall
          by_cases hjl : j < (lst y).length
          · obtain ⟨qi, hq⟩ : ∃ x, (lst y)[j]? = some x := ⟨_, List.getElem?_eq_getElem hjl⟩
            obtain ⟨q, hq8, rfl, hqb⟩ := HMEM.out qi (List.mem_of_getElem? hq)
            have HQ := Lib.hid hq
            have hi := HI4.out.but HN.out hbw
            obtain ⟨gb2, go2, rfl, hgb2, e0⟩ := ints_at (hbw.slc HX4.out HN4.out) hq
            have hjl2 : (j : Int) < ((lst y).length : Int) := by omega
            have g1 := box1 hi.hg
            have g1z := lt_of_block hi.hg
            unfold growV at g1
            have hbx := hbw.blk HB4.out hbs.1 hbs.2
            have g2 := box1 hbx
            have g2z := lt_of_block hbx
            have HIW := Lib.hid hi
            have hmq : m.testBit q = false := by
              cases hb : m.testBit q with
              | false => rfl
              | true => exact absurd ⟨hqb, hb⟩ (and_zero.1 HYM.out q)
            obtain ⟨hgt, hlt⟩ := or_bit hm hq8 hmq
            have hor := Mk.bits_or m (2 ^ q) hm (pow_lt8 hq8)
            have hwp := bwrap_pow (i := q) (by omega)
            have y1 : (0 : Int) ≤ (q : Int) := by omega
            have y2 : (q : Int) ≤ 64 := by omega
            have HGT := Lib.hid hgt
            have HLT := Lib.hid hlt
            clear hq hi hbx hmq hgt hlt hqb hbw hsw hfw hsub1 hst hall
            go_wp2_with fail
            go_still_tail 5, (by kernel_rfl)
            change wpList _ _ _ _ _ wr.drew
            clear g1 g2 g1z g2z e0
            go_wp2_with fail
            have hw2 : wrap64 ((2 : Int) ^ q) = ((2 ^ q : Nat) : Int) := by
              have h1 := hwp
              rw [IntWalk.i64_left, Int.one_mul] at h1
              exact h1
            rw [hw2, hor]
            clear hw2 hor hwp
            have hdr : But bsm bfm wr wr.drew := But.of_grow (Grow.refl wr).drew
            refine IH.out (m ||| 2 ^ q) (by have := HGT.out; omega) HLT.out Sn1 Fd1 wr.drew (HIW.out.but HN.out hdr) (HSW.out.grow (Grow.refl wr).drew) (HFW.out.grow (Grow.refl wr).drew) HSUB1.out _ ?_
            intro w5 Sn2 Fd2 hbu5 hs5 hf5 hsub5 hst5 hm5
            have HBW5 := Lib.hid ((HBW.out.trans hdr).trans hbu5)
            have HS5 := Lib.hid hs5
            have HF5 := Lib.hid hf5
            have HSUB5 := Lib.hid hsub5
            have HALL5 := Lib.hid (show ∀ x ∈ (lst y).take (j + 1), Sn2 (m ||| 2 ^ x.toNat) = true from fun x hx => by
              rw [List.take_add_one, HQ.out] at hx
              rcases List.mem_append.1 hx with hx | hx
              · exact hst5.sn _ (HALL.out x hx)
              · simp at hx; subst hx; simpa using hm5)
            have HST5 := Lib.hid (HST.out.trans hst5)
            clear hbu5 hs5 hf5 hsub5 hst5 hm5 hdr
            go_wp2_with fail
            go_roundw
            case rel => exact ⟨j + 1, Sn2, Fd2, by omega, by go_num, HBW5.out, HS5.out, HF5.out, HSUB5.out, HST5.out, HALL5.out⟩
            case measure => simp [intOf]; omega
          · have hjn : j = (lst y).length := by omega
            have hall2 := HALL.out
            rw [hjn, List.take_length] at hall2
            have HFF := Lib.hid (HR.out wr Sn1 Fd1 (HBU4.out.trans HBW.out) HSW.out HFW.out HSUB1.out (HST.out.more HYF.out HYM.out fun q hq => hall2 (q : Int) (mem_mem.2 ⟨q, bit_lt hy256 hq, rfl, hq⟩)) (HST.out.sn m (addS_same _ _)))
            clear hjn hall2 hbw hsw hfw hsub1 hst hall
            go_wp2_with fail
            exact bodyPost_ret (v := .tuple #[]) (by simp [results, Tryz.results113, go_sem]) rfl HFF.out
/-- The sets that hit and that are smallest, in some order. -/
def BlkI (F : List Nat) (L : List Nat) : Prop := L.Nodup ∧ ∀ x, x ∈ L ↔ x ∈ blk F
theorem blk_least {F L : List Nat} {Fd : Nat → Bool} (h1 : ∀ x, Fd x = true → hit F x = true) (h2 : ∀ m, m < 256 → Min F m → Fd m = true) (hL : ∀ x, x ∈ L ↔ x < 256 ∧ Fd x = true) : BlkI F (lsP L) := by
  refine ⟨lsP_nodup L, fun x => ?_⟩
  rw [mem_lsP, mem_blk]
  constructor
  · rintro ⟨hx, hmin⟩
    obtain ⟨hx1, hx2⟩ := (hL x).1 hx
    refine ⟨hx1, h1 x hx2, fun y hy hh => ?_⟩
    have hy256 : y < 256 := by have := part_le hy; omega
    obtain ⟨z, hz, hzm⟩ := min_below y y (Nat.le_refl _) hy256 hh
    have hz256 : z < 256 := by have := part_le hz; omega
    have := hmin z ((hL z).2 ⟨hz256, h2 z hz256 hzm⟩) (part_trans hz hy)
    subst this
    exact part_anti hy hz
  · rintro ⟨hx, hm⟩
    exact ⟨(hL x).2 ⟨hx, h2 x hx hm⟩, fun y hy hp => hm.2 y hp (h1 y ((hL y).1 hy).2)⟩
theorem heaps6 (w : World) (A B C D E G : Obj) : let W := (((((w.alloc A).alloc B).alloc C).alloc D).alloc E).alloc G
    W.heap[w.heap.size]? = some A ∧ W.heap[w.heap.size + 1]? = some B ∧ W.heap[w.heap.size + 1 + 1]? = some C ∧ W.heap[w.heap.size + 1 + 1 + 1]? = some D ∧ W.heap[w.heap.size + 1 + 1 + 1 + 1]? = some E ∧ W.heap[w.heap.size + 1 + 1 + 1 + 1 + 1]? = some G := by
  have up : ∀ {X : World} {k : Nat} {o p : Obj}, X.heap[k]? = some o → (X.alloc p).heap[k]? = some o := fun {X k o p} h => ((Grow.refl X).alloc p).blk h
  have hn : ∀ {X : World} {n : Nat} {o : Obj}, X.heap.size = n → (X.alloc o).heap[n]? = some o := fun {X n o} e => e ▸ heap_alloc_new X o
  refine ⟨up (up (up (up (up (hn rfl))))), up (up (up (up (hn (by simp))))), up (up (up (hn (by simp)))), up (up (hn (by simp))), up (hn (by simp)), hn (by simp)⟩
/-- A truth value as it comes out of a map. -/
structure Bx where
  b : Bool
set_option maxRecDepth 100000 in
theorem boolM_inv {v : Value} {y : DataW Unit × List MemPlace} (h : plainElem Tryz.prog 4 v = some y) : ∃ c : Bx, v = .bool c.b := by
  unfold plainElem at h
  rw [Tryz.underlying4] at h
  cases v <;> simp at h
  exact ⟨⟨_⟩, rfl⟩
/-- What has been collected: the sets that the map holds and that are not still to come. -/
structure Coll (Fd : Nat → Bool) (left : Lit → Bool) (L : List Nat) : Prop where
  nd : L.Nodup
  is : ∀ x, x ∈ L ↔ x < 256 ∧ Fd x = true ∧ left (.int .i64 (x : Int)) = false
theorem Coll.lt {Fd : Nat → Bool} {left : Lit → Bool} {L : List Nat} (h : Coll Fd left L) : ∀ x ∈ L, x < 256 := fun x hx => ((h.is x).1 hx).1
theorem Coll.start {D : DataW Unit} {Fd : Nat → Bool} (h : HoldsS D Fd) : Coll Fd (Go.Maps.has D) [] := by
  refine ⟨List.Pairwise.nil, fun x => ⟨fun h => (by cases h), fun ⟨h1, h2, h3⟩ => ?_⟩⟩
  have := Go.Maps.has_true_of_atKey (h.yes x h1 h2)
  rw [this] at h3; cases h3
theorem Coll.step {Fd : Nat → Bool} {left : Lit → Bool} {L : List Nat} (h : Coll Fd left L) {m : Nat} (hm : m < 256) (hf : Fd m = true) (hl : left (.int .i64 (m : Int)) = true) : Coll Fd (fun z => left z && !z.sameKey (.int .i64 (m : Int))) (L ++ [m]) := by
  refine ⟨List.nodup_append.2 ⟨h.nd, by simp, fun a ha b hb e => ?_⟩, fun x => ?_⟩
  · simp at hb; subst hb; subst e
    have := ((h.is a).1 ha).2.2
    rw [hl] at this; cases this
  · rw [List.mem_append, h.is]
    constructor
    · rintro (⟨a, b, c⟩ | hx)
      · exact ⟨a, b, by rw [c]; rfl⟩
      · simp at hx; subst hx
        refine ⟨hm, hf, ?_⟩
        have : (Lit.int .i64 (x : Int)).sameKey (.int .i64 (x : Int)) = true := by simp [Lit.sameKey]
        rw [this]; simp
    · rintro ⟨a, b, c⟩
      by_cases e : x = m
      · exact .inr (by simp [e])
      · left
        refine ⟨a, b, ?_⟩
        have hs : (Lit.int .i64 (x : Int)).sameKey (.int .i64 (m : Int)) = false := Go.Maps.sameKey_ne (fun he => by cases he; exact e rfl)
        rw [hs] at c
        simpa using c
theorem zero_cast : (0 : Int) = ((0 : Nat) : Int) := rfl
set_option maxRecDepth 100000 in
set_option maxHeartbeats 16000000 in
theorem blocker_any (F : List Nat) (hF : ∀ x ∈ F, x < 256) (v : Value) (w : World) (hv : IntsAt w v (nI F)) (R : Ending → World → Prop) (hR : ∀ w' v L, Grow w w' → BlkI F L → OwnI w.heap.size w' v (nI L) → R (.returned v) w') :
    Calls Tryz.prog 62 #[v] w R := by
  have HV := Lib.hid hv
  have HFL := Lib.hid hF
  have HR := Lib.hid hR
  have hmm := @run_makeMap Tryz.prog
  obtain ⟨fa, fc, rfl, fq1, fq2, fq3⟩ := hv
  have hfb : ∀ b o s, fa = some ⟨b, o, s⟩ → b < w.heap.size ∨ nI F = [] := fun b o s e => by
    rcases fq3 with ⟨h, _⟩ | ⟨b', o', h, hb, _⟩
    · exact .inr h
    · rw [h] at e; cases e; exact .inl hb
  clear hR hF
  go_enter Tryz.func62, Tryz.ntmps62
  go_wp2_with fail
  have hsz : (((((w.alloc (.cells #[.slice fa (nI F).length fc] 29)).alloc (.map #[] 0)).alloc (.cells #[.map (some (w.heap.size + 1))] 105)).alloc (.map #[] 0)).alloc (.cells #[.map (some (w.heap.size + 1 + 1 + 1))] 105)).heap.size = w.heap.size + 5 := by simp
  obtain ⟨k0, k1, k2, k3, k4, k5⟩ := heaps6 w (.cells #[.slice fa (nI F).length fc] 29) (.map #[] 0) (.cells #[.map (some (w.heap.size + 1))] 105) (.map #[] 0) (.cells #[.map (some (w.heap.size + 1 + 1 + 1))] 105) (.cells #[.func (.func 113) #[] #[.pointer (some ⟨w.heap.size + 1 + 1 + 1 + 1, 0, none⟩), .pointer (some ⟨w.heap.size, 0, none⟩), .pointer (some ⟨w.heap.size + 1 + 1, 0, none⟩), .pointer (some ⟨w.heap.size + 1 + 1 + 1 + 1 + 1, 0, none⟩)]] 106)
  have hgW : Grow w ((((((w.alloc (.cells #[.slice fa (nI F).length fc] 29)).alloc (.map #[] 0)).alloc (.cells #[.map (some (w.heap.size + 1))] 105)).alloc (.map #[] 0)).alloc (.cells #[.map (some (w.heap.size + 1 + 1 + 1))] 105)).alloc (.cells #[.func (.func 113) #[] #[.pointer (some ⟨w.heap.size + 1 + 1 + 1 + 1, 0, none⟩), .pointer (some ⟨w.heap.size, 0, none⟩), .pointer (some ⟨w.heap.size + 1 + 1, 0, none⟩), .pointer (some ⟨w.heap.size + 1 + 1 + 1 + 1 + 1, 0, none⟩)]] 106)) := ((((((Grow.refl w).alloc _).alloc _).alloc _).alloc _).alloc _).alloc _
  have hs1 : SetAt ((((((w.alloc (.cells #[.slice fa (nI F).length fc] 29)).alloc (.map #[] 0)).alloc (.cells #[.map (some (w.heap.size + 1))] 105)).alloc (.map #[] 0)).alloc (.cells #[.map (some (w.heap.size + 1 + 1 + 1))] 105)).alloc (.cells #[.func (.func 113) #[] #[.pointer (some ⟨w.heap.size + 1 + 1 + 1 + 1, 0, none⟩), .pointer (some ⟨w.heap.size, 0, none⟩), .pointer (some ⟨w.heap.size + 1 + 1, 0, none⟩), .pointer (some ⟨w.heap.size + 1 + 1 + 1 + 1 + 1, 0, none⟩)]] 106)) (w.heap.size + 1) (fun _ => false) := by
    have h := SetAt.made (w.alloc (.cells #[.slice fa (nI F).length fc] 29))
    rw [World.size_alloc] at h
    exact h.grow (((((Grow.refl _).alloc _).alloc _).alloc _).alloc _)
  have hs3 : SetAt ((((((w.alloc (.cells #[.slice fa (nI F).length fc] 29)).alloc (.map #[] 0)).alloc (.cells #[.map (some (w.heap.size + 1))] 105)).alloc (.map #[] 0)).alloc (.cells #[.map (some (w.heap.size + 1 + 1 + 1))] 105)).alloc (.cells #[.func (.func 113) #[] #[.pointer (some ⟨w.heap.size + 1 + 1 + 1 + 1, 0, none⟩), .pointer (some ⟨w.heap.size, 0, none⟩), .pointer (some ⟨w.heap.size + 1 + 1, 0, none⟩), .pointer (some ⟨w.heap.size + 1 + 1 + 1 + 1 + 1, 0, none⟩)]] 106)) (w.heap.size + 1 + 1 + 1) (fun _ => false) := by
    have h := SetAt.made (((w.alloc (.cells #[.slice fa (nI F).length fc] 29)).alloc (.map #[] 0)).alloc (.cells #[.map (some (w.heap.size + 1))] 105))
    rw [World.size_alloc, World.size_alloc, World.size_alloc] at h
    exact h.grow (((Grow.refl _).alloc _).alloc _)
  generalize ((((((w.alloc (.cells #[.slice fa (nI F).length fc] 29)).alloc (.map #[] 0)).alloc (.cells #[.map (some (w.heap.size + 1))] 105)).alloc (.map #[] 0)).alloc (.cells #[.map (some (w.heap.size + 1 + 1 + 1))] 105)).alloc (.cells #[.func (.func 113) #[] #[.pointer (some ⟨w.heap.size + 1 + 1 + 1 + 1, 0, none⟩), .pointer (some ⟨w.heap.size, 0, none⟩), .pointer (some ⟨w.heap.size + 1 + 1, 0, none⟩), .pointer (some ⟨w.heap.size + 1 + 1 + 1 + 1 + 1, 0, none⟩)]] 106)) = W at k0 k1 k2 k3 k4 k5 hgW hs1 hs3 ⊢
  obtain ⟨B, hB⟩ : ∃ B, w.heap.size = B := ⟨_, rfl⟩
  rw [hB] at k0 k1 k2 k3 k4 k5 hs1 hs3 hsz HR ⊢
  have HGW := Lib.hid hgW
  have HBB := Lib.hid hB
  have hI : GrowI F (.slice fa (nI F).length fc) B (B + 1) (B + 1 + 1) (B + 1 + 1 + 1) (B + 1 + 1 + 1 + 1) (B + 1 + 1 + 1 + 1 + 1) W := ⟨k0, k2, k4, k5, HV.out.grow hgW⟩
  have hN : GrowN F (.slice fa (nI F).length fc) B (B + 1) (B + 1 + 1) (B + 1 + 1 + 1) (B + 1 + 1 + 1 + 1) (B + 1 + 1 + 1 + 1 + 1) :=
    ⟨⟨by omega, by omega⟩, ⟨by omega, by omega⟩, ⟨by omega, by omega⟩, ⟨by omega, by omega⟩, by omega, fun hne b o ⟨n, c, e⟩ => by
      cases e
      rcases hfb b o none rfl with h | h
      · exact ⟨by omega, by omega⟩
      · exact absurd h hne⟩
  have HK2 := Lib.hid k2
  clear k0 k1 k2 k3 k4 k5 hsz hfb fq3 hgW hB hmm
  rw [zero_cast]
  refine grow_any F HFL.out _ _ _ _ _ _ _ hN 256 0 (by omega) (by omega) (fun _ => false) (fun _ => false) W hI hs3 hs1 (fun _ h => by cases h) _ ?_
  intro w2 Sn Fd hbu2 _ hf2 _ hst hm0
  obtain ⟨hfd1, hfd2⟩ := found_all hst hm0
  have hg2 : Grow w w2 := hbu2.grow HGW.out (by have := HBB.out; omega) (by have := HBB.out; omega)
  have e2 := box1 (hbu2.blk HK2.out (by omega) (by omega))
  have e2z := lt_of_block (hbu2.blk HK2.out (by omega) (by omega))
  have HFD1 := Lib.hid hfd1
  have HFD2 := Lib.hid hfd2
  have HG2 := Lib.hid hg2
  have hlt2 := hf2.lt
  obtain ⟨n2, D, hn2, ho2, hh2⟩ := hf2
  have HO2 := Lib.hid ho2
  have HH2 := Lib.hid hh2
  clear hbu2 hst hm0 hI hN hs1 hs3 hfd1 hfd2 hg2 hn2 ho2 hh2
  go_wp2_with (at_range; refine wpList_range_own _ rfl _ 105 rfl 3 4 lawM Tryz.underlying105 (plainElem Tryz.prog 4) (B + 1) n2 D rfl HO2.out ?_; intro w0 hrg0 hg0 hs0)
  have hgr0 : Grow w2 w0 := Grow.of_grownBy hg0
  have HG0 := Lib.hid (HG2.out.trans hgr0)
  have HRG0 := Lib.hid hrg0
  have hBz : w.heap.size ≤ w2.heap.size := HG2.out.sz
  have hBB := HBB.out
  have HCS := Lib.hid (Coll.start HH2.out)
  clear hg0 hgr0 hrg0 e2
  go_frame
  go_loopw [6, 7] (fun out _ wr => ∃ (left : Lit → Bool) (cnt : Nat) (L : List Nat), wr.ranges Tryz.prog 3 (plainElem Tryz.prog 4) (B + 1) w2.heap.size n2 D left cnt ∧ Coll Fd left L ∧ (∀ kl, left kl = true → Go.Maps.has D kl = true) ∧ Grow w wr ∧ wr.ownsRow w0.heap.size 3 1 out (nI L).length ((nI L).flatMap encI) ∧ w0.heap.size ≤ wr.heap.size) (fun _ _ wr => wr.rangeLeft (B + 1) w2.heap.size)
  case atStart => exact ⟨_, _, [], HRG0.out, HCS.out, fun _ h => h, HG0.out, World.ownsRow_nil _ _ _ _, Nat.le_refl _⟩
  case round =>
    obtain ⟨left, cnt, L, hrg, hco, hle, hgr, how, hsz⟩ := hrel
    have HRG := Lib.hid hrg
    have HCO := Lib.hid hco
    have HLE := Lib.hid hle
    have HGR := Lib.hid hgr
    have HOW := Lib.hid how
    have hzw := hrg.lt
    clear hrg hco hle hgr how
    go_wp2_with (at_next; refine wpList_next_ranges _ rfl _ rfl 3 lawM (plainElem Tryz.prog 4) (Value.int .i64) (fun c : Bx => Value.bool c.b) (fun key kl h => by obtain ⟨z, hz, _⟩ := Go.Maps.keyOf_int_inv Tryz.underlying3 h; exact ⟨z, hz⟩) (fun v y h => boolM_inv h) (B + 1) w2.heap.size n2 D left cnt rfl HRG.out ?_ ?_)
    · intro _ hl0
      have hL : ∀ x, x ∈ L ↔ x < 256 ∧ Fd x = true := fun x => by
        rw [HCO.out.is]
        exact ⟨fun h => ⟨h.1, h.2.1⟩, fun h => ⟨h.1, h.2, hl0 _⟩⟩
      have HBK := Lib.hid (blk_least HFD1.out HFD2.out hL)
      have HLT := Lib.hid HCO.out.lt
      have hlen : L.length ≤ 256 := nodup_below 256 L HCO.out.nd HCO.out.lt
      have HSL := Lib.hid (slc_of_owns encI_len HOW.out)
      clear hL hl0
      go_wp2_with fail
      refine least_any L HLT.out (by omega) _ _ HSL.out _ ?_
      intro w5 v5 hg5 hv5
      have HF := Lib.hid (HR.out w5 v5 (lsP L) (HGR.out.trans hg5) HBK.out (hv5.mono (by have := HGR.out.sz; omega)))
      clear hg5 hv5
      go_wp2_with fail
      exact HF.out
    · intro xk c kl y1 y2 w1 cnt1 hkey hlk hv hat hrg1 hlt hg1 hs1 hen
      obtain ⟨x', ex, rfl, hwx⟩ := Go.Maps.keyOf_int_inv Tryz.underlying3 hkey
      cases ex
      obtain ⟨m, hm, hfm, hxm⟩ := HH2.out.all _ (HLE.out _ hlk)
      cases hxm
      have HCO1 := Lib.hid (HCO.out.step hm hfm hlk)
      have HLE1 := Lib.hid (fun kl (h : (left kl && !kl.sameKey (.int .i64 (m : Int))) = true) => HLE.out kl (by rw [Bool.and_eq_true] at h; exact h.1))
      have hown1 := HOW.out.kept hg1 (.inr fun e => by have := (HOW.out.lt _ e).1; omega)
      have HOW1 := Lib.hid hown1
      have HGR1 := Lib.hid (show Grow w w1 from Below.grown HGR.out hg1 HGR.out.sz (fun j hj => by cases hj; omega))
      have HRG1 := Lib.hid hrg1
      have hlen : L.length ≤ 256 := nodup_below 256 L HCO.out.nd HCO.out.lt
      have HLB := Lib.hid (show (nI L).length < 100000000000 by rw [nI_len]; omega)
      have HLT := Lib.hid hlt
      have HEN := Lib.hid hen
      have hsz1 : w0.heap.size ≤ w1.heap.size := by omega
      have hsz2 : w2.heap.size < w1.heap.size := by omega
      clear hkey hlk hv hat hrg1 hg1 hwx hfm hlt hown1 hs1
      go_wp2_with (at_builtin; refine wpList_app _ rfl (.tmp 19) (.tmp 21) 29 rfl w0.heap.size 3 Tryz.underlying29 info_int rfl (by decide) (by decide) encI encI_len encI_one _ (nI L) rfl (((Grow.refl _).alloc _).owns HOW1.out) _ (m : Int) 1 rfl (newsG _ _ (by simp) (encI (m : Int)) _) HLB.out (by simp; omega) ?_; intro out2 w7 hown7 hgr7)
      have hr7 := (HRG1.out.alloc (.cells #[.int .i64 (m : Int)] 3)).kept hgr7 (fun e => by have := (HOW1.out.lt _ e.symm).1; omega) (fun e => by have := (HOW1.out.lt _ e.symm).1; omega)
      have hg7 : Grow w w7 := grown_below HOW1.out hgr7 (by have := HG0.out.sz; omega) (by have := HGR1.out.sz; simp; omega) (HGR1.out.alloc _)
      have hz7 := hgr7.size
      rw [World.size_alloc] at hz7
      refine ⟨⟨_, _, L ++ [m], hr7, HCO1.out, HLE1.out, hg7, by rw [nI_snoc]; exact hown7, by omega⟩, ?_⟩
      have e1 := hr7.left_eq
      rw [e1, HRG.out.left_eq]
      exact HLT.out
end Go.Proofs.YtmlbgfnddgbpbaaGreat
