/-
The statement BlameLeast: what is least of a family is what the document says, in new memory, for all lists, and it has the same blocker. No condition.
-/
import Derived.Test.YtmlbgfnddgbpbaaGreatD19
import Derived.Test.YtmlbgfnddgbpbaaGreatD14
import Derived.ProofKit
import Derived.Lib.SmallJoins
import Derived.Test.YtmlbgfnddgbpbaaGreatD23
namespace Go.Proofs.YtmlbgfnddgbpbaaGreat
open Go.RowKit
open Mk Bm

/-- Lists that were made and can be written, while numbers are stored into them. -/
structure AInv (B : Nat) (L : List (Lo Int)) (av : Value) (W : World) : Prop where
  small : ∀ t ∈ L, t.n ≤ 9223372036854775807
  outer : SlcAt 1 encLo W av L
  inner : ∀ t ∈ L, ∀ j, j < t.n → ∃ b o u, t.a = some ⟨b, o, none⟩ ∧ B ≤ b ∧ W.cell? ⟨b, o + j, none⟩ = some u ∧ W.frozen? ⟨b, o + j, none⟩ = false ∧ ∀ a n c, av = .slice (some a) n c → a.block ≠ b
theorem AInv.of {B : Nat} {w : World} {v : Value} {f : List (List Int)} (h : FamNew B w v f) : ∃ L, AInv B L v w ∧ L.map Lo.x = f ∧ ∀ t ∈ L, t.n = t.x.length := by
  obtain ⟨L, h1, h2, _, h4, h5, h6⟩ := h
  have hn : ∀ t ∈ L, t.n = t.x.length := fun t ht => (slc_n (h4 t ht)).1
  refine ⟨L, ⟨fun t ht => (by have := (h4 t ht).len_le; rw [hn t ht]; exact this), h1, fun t ht j hj => ?_⟩, h2, hn⟩
  have hx := h4 t ht
  have hjx : j < t.x.length := by rw [← hn t ht]; exact hj
  obtain ⟨b, o, ha, hb, hc⟩ := ints_at hx (List.getElem?_eq_getElem hjx)
  obtain ⟨k1, _, k3⟩ := h5 t ht b o none ha
  exact ⟨b, o, _, ha, k1, hc, k3 _, fun a n c he => h6 t ht b o none ha a n c he⟩
theorem AInv.store {B : Nat} {L : List (Lo Int)} {av : Value} {W : World} (h : AInv B L av W) {b i : Nat} (hne : ∀ a n c, av = .slice (some a) n c → a.block ≠ b) (v : Value) : AInv B L av (W.setCell ⟨b, i, none⟩ v) := by
  refine ⟨h.small, ?_, fun t ht j hj => ?_⟩
  · obtain ⟨p, c, h1, h2, h3, h4⟩ := h.outer
    refine ⟨p, c, h1, h2, h3, h4.imp id ?_⟩
    rintro ⟨b', o', e, hb', hc⟩
    subst e
    have hn := hne _ _ _ h1
    refine ⟨b', o', rfl, by rw [World.size_setCell]; exact hb', fun j x hx k u hu => ?_⟩
    exact (World.cell?_setCell_other (h := by intro e3; cases e3; exact hn rfl) ..).trans (hc j x hx k u hu)
  · obtain ⟨b', o', u, h1, h2, h3, h4, h5⟩ := h.inner t ht j hj
    by_cases e : (⟨b', o' + j, none⟩ : Addr) = ⟨b, i, none⟩
    · cases e
      exact ⟨b, o', v, h1, h2, World.cell?_setCell_same (h := h3) .., by rw [World.frozen?_setCell]; exact h4, h5⟩
    · exact ⟨b', o', u, h1, h2, (World.cell?_setCell_other (h := fun e3 => e e3.symm) ..).trans h3, by rw [World.frozen?_setCell]; exact h4, h5⟩
theorem Grow.grow {a b c : World} (h : Grow a b) (g : Grow b c) : Grow a c := h.trans g
set_option maxRecDepth 100000 in
set_option maxHeartbeats 32000000 in
theorem blameLeast_any (f : List (List Int)) (w : World) (vf : Value) (hf : FamAt w vf f) (R : Ending → World → Prop) (hR : ∀ w', Grow w w' → R (.returned (.bool true)) w') :
    Calls Tryz.prog 4 #[vf] w R := by
  have HR := Lib.hid hR
  have HF_ := Lib.hid hf
  obtain ⟨adf, cpf, rfl, qf1, qf2⟩ := FamAt.out hf
  clear hR
  obtain ⟨gq0, hgq0⟩ : ∃ z, longF f = z := ⟨_, rfl⟩
  have HGD0 := Lib.hid hgq0
  clear hgq0
  cases gq0 with
  | true =>
    go_enter Tryz.func4, Tryz.ntmps4
    go_wp2_with fail
    refine longF_any f _ _ (by first | exact HF_.out | exact HF_.out.grow ((Grow.refl _).alloc _) | exact HF_.out.grow (((Grow.refl _).alloc _).alloc _) | exact HF_.out.grow ((((Grow.refl _).alloc _).alloc _).alloc _) | exact HF_.out.grow (((((Grow.refl _).alloc _).alloc _).alloc _).alloc _) | exact HF_.out.grow ((Grow.refl _).drewN _)) _ ?_
    intro wz1 hg1 
    have hgr1 : Grow w wz1 := by first | exact hg1 | exact Grow.trans ((Grow.refl _).alloc _) hg1 | exact Grow.trans (((Grow.refl _).alloc _).alloc _) hg1 | exact Grow.trans ((((Grow.refl _).alloc _).alloc _).alloc _) hg1 | exact Grow.trans (((((Grow.refl _).alloc _).alloc _).alloc _).alloc _) hg1 | exact Grow.trans ((Grow.refl _).drewN _) hg1
    have HF_1 := Lib.hid (HF_.out.grow hgr1)
    have GCH1 := Lib.hid hgr1
    clear hg1 hgr1 HF_
    rw [HGD0.out]
    go_wp2_with fail
    refine known3_any _ _ ?_
    intro wz2 hg2 
    have hgr2 : Grow wz1 wz2 := by first | exact hg2 | exact Grow.trans ((Grow.refl _).alloc _) hg2 | exact Grow.trans (((Grow.refl _).alloc _).alloc _) hg2 | exact Grow.trans ((((Grow.refl _).alloc _).alloc _).alloc _) hg2 | exact Grow.trans (((((Grow.refl _).alloc _).alloc _).alloc _).alloc _) hg2 | exact Grow.trans ((Grow.refl _).drewN _) hg2
    have HF_2 := Lib.hid (HF_1.out.grow hgr2)
    have GCH2 := Lib.hid (GCH1.out.trans hgr2)
    clear hg2 hgr2 HF_1 GCH1
    go_wp2_with fail
    first | exact HR.out _ (GCH2.out) | exact HR.out _ (Grow.trans GCH2.out ((Grow.refl _).alloc _)) | exact HR.out _ (Grow.trans GCH2.out (((Grow.refl _).alloc _).alloc _)) | exact HR.out _ (Grow.trans GCH2.out ((((Grow.refl _).alloc _).alloc _).alloc _)) | exact HR.out _ (Grow.trans GCH2.out (((((Grow.refl _).alloc _).alloc _).alloc _).alloc _)) | exact HR.out _ (Grow.trans GCH2.out ((Grow.refl _).drewN _))
  | false =>
    obtain ⟨e, he⟩ : ∃ z, valF f = z := ⟨_, rfl⟩
    have HE := Lib.hid he
    obtain ⟨A, hA⟩ : ∃ z, leO f = z := ⟨_, rfl⟩
    have HA := Lib.hid hA
    obtain ⟨X, hX⟩ : ∃ z, bkO f = z := ⟨_, rfl⟩
    have HX := Lib.hid hX
    have t2 : (e != e) = false := by simp
    have hva : valF A = 0 := by
      by_cases h0 : e = 0
      · rw [← hA]; unfold leO; rw [he, h0, ifOK_ok]; exact ls_val (he.trans h0)
      · rw [← hA]; unfold leO; rw [he, ifOK_err h0]; decide
    have hyx : e = 0 → bkO A = X := fun h0 => by
      unfold bkO; rw [hva, ifOK_ok, ← hA, ← hX]; unfold leO bkO; rw [he, h0, ifOK_ok, ifOK_ok]; exact bk_ls (he.trans h0)
    obtain ⟨Y, hY⟩ : ∃ z, bkO A = z := ⟨_, rfl⟩
    have HY := Lib.hid hY
    rw [hY] at hyx
    have HVA := Lib.hid hva
    have HYX := Lib.hid hyx
    have hfl : f.length ≤ 100 := by have := HGD0.out; unfold longF at this; rw [Bool.or_eq_false_iff] at this; simpa using this.1
    have hfs : ∀ x ∈ f, x.length ≤ 100 := fun x hx => by
      have h := HGD0.out
      unfold longF at h
      rw [Bool.or_eq_false_iff] at h
      have h1 : f.all shortS = true := by have := h.2; cases hq : f.all shortS with | true => rfl | false => rw [hq] at this; cases this
      have h2 := List.all_eq_true.1 h1 x hx
      unfold shortS at h2
      simpa using h2
    have HFS := Lib.hid hfs
    clear he hA hX hva hyx hY hfs
    go_enter Tryz.func4, Tryz.ntmps4
    go_wp2_with fail
    refine longF_any f _ _ (by first | exact HF_.out | exact HF_.out.grow ((Grow.refl _).alloc _) | exact HF_.out.grow (((Grow.refl _).alloc _).alloc _) | exact HF_.out.grow ((((Grow.refl _).alloc _).alloc _).alloc _) | exact HF_.out.grow (((((Grow.refl _).alloc _).alloc _).alloc _).alloc _) | exact HF_.out.grow ((Grow.refl _).drewN _)) _ ?_
    intro wz1 hg1 
    have hgr1 : Grow w wz1 := by first | exact hg1 | exact Grow.trans ((Grow.refl _).alloc _) hg1 | exact Grow.trans (((Grow.refl _).alloc _).alloc _) hg1 | exact Grow.trans ((((Grow.refl _).alloc _).alloc _).alloc _) hg1 | exact Grow.trans (((((Grow.refl _).alloc _).alloc _).alloc _).alloc _) hg1 | exact Grow.trans ((Grow.refl _).drewN _) hg1
    have HF_1 := Lib.hid (HF_.out.grow hgr1)
    have GCH1 := Lib.hid hgr1
    clear hg1 hgr1 HF_
    rw [HGD0.out]
    go_wp2_with fail
    go_loopw [3, 4] (fun own i wr => ∃ (k : Nat) (Q : List (Lo Int)), k ≤ f.length ∧ i = .int .i64 k ∧ Grow wz1 wr ∧ LoOwn wz1.heap.size 29 1 encI wr own Q ∧ Q.map Lo.x = f.take k) (fun _ i _ => f.length - (intOf i).toNat)
    case atStart => exact ⟨0, [], Nat.zero_le _, rfl, Grow.refl _, LoOwn.nil _ _ _ _ _, rfl⟩
    case round =>
      obtain ⟨k, Q, hk, rfl, hg, how, hmp⟩ := hrel
      have HG := Lib.hid hg
      have HO := Lib.hid how
      have HMP := Lib.hid hmp
      have hzj := hg.sz
      have HLE := Lib.hid (show Q.length < 100000000000 by have := congrArg List.length hmp; rw [List.length_map, List.length_take] at this; omega)
      clear how hmp
      by_cases hlt : k < f.length
      · clear hg
        obtain ⟨l, hl⟩ : ∃ x, f[k]? = some x := ⟨_, List.getElem?_eq_getElem hlt⟩
        obtain ⟨b, o, ta, tc, hoa, hb, e0, hi⟩ := fam_at (HF_1.out.grow HG.out) hl
        subst hoa
        have HI := Lib.hid hi
        have hlt2 : (k : Int) < (f.length : Int) := by omega
        have hl100 := HFS.out l (List.mem_of_getElem? hl)
        have HTK := Lib.hid (show f.take (k + 1) = f.take k ++ [l] by rw [List.take_add_one, hl]; rfl)
        clear hl hi
        go_wp2_with (at_builtin; refine Classical.byContradiction (fun hcon => ?_))
        refine hcon ?_
        clear hcon
        refine wpList_appAll _ rfl (.tmp 26) (.tmp 30) 29 rfl wr.heap.size 3 Tryz.underlying29 info_int rfl (by decide) (by decide) encI encI_len encI_one _ [] rfl (ownsRow_empty wr 1 _ _ _ (Nat.le_refl _)) _ l rfl (HI.out.grow ((Grow.refl wr).alloc _)) (by simp; omega) (by simp) ?_
        intro v4 w4 hown4 hgr4
        rw [List.nil_append] at hown4
        have hg4 : Grow wr w4 := grown_below (ownsRow_empty wr 1 3 encI _ (Nat.le_refl _)) hgr4 (Nat.le_refl _) (by simp) ((Grow.refl wr).alloc _)
        obtain ⟨a4, c4, hv4, jk4⟩ := slc_of_owns encI_len hown4
        subst hv4
        have HX4 := Lib.hid (show IntsAt w4 (.slice a4 l.length c4) l from ⟨a4, c4, rfl, jk4⟩)
        have HOF := Lib.hid (HO.out.new (⟨_, hown4⟩ : Own 1 encI wr.heap.size w4 (.slice a4 l.length c4) l))
        obtain ⟨n4, hn4⟩ : ∃ z, l.length = z := ⟨_, rfl⟩
        rw [hn4] at HX4 hl100 ⊢
        have HG4 := Lib.hid (HG.out.trans hg4)
        have HO4 := Lib.hid (HO.out.grow hg4)
        have hz4 := hg4.sz
        clear hown4 hgr4 hg4 jk4 e0 hn4
        go_wp2_with (at_builtin; refine Classical.byContradiction (fun hcon => ?_))
        refine hcon ?_
        clear hcon
        refine wpList_appAt _ rfl (.tmp 25) (.tmp 32) 22 rfl wz1.heap.size 29 Tryz.underlying22 info_sli rfl (by decide) (by decide) encLo encLo_len encLo_one _ Q rfl (((Grow.refl w4).alloc _).owns HO4.out.row) _ (⟨a4, n4, c4, l⟩ : Lo Int) 1 rfl (newsG w4 _ rfl (encLo (⟨a4, n4, c4, l⟩ : Lo Int)) 29) HLE.out (by simp; omega) ?_
        intro out2 w5 hown5 hgr5 hat5
        have hgA := (Grow.refl w4).alloc (.cells #[.slice a4 n4 c4] 29)
        have HG5 := Lib.hid (show Grow wz1 w5 from grown_below HO4.out.row hgr5 (Nat.le_refl _) (by simp; omega) (HG4.out.alloc _))
        have HO5 := Lib.hid ((HO4.out.grow hgA).app (t := (⟨a4, n4, c4, l⟩ : Lo Int)) hgr5 hown5 hat5 (HX4.out.grow hgA) (fun b o s h => ⟨(HOF.out b o s h).1, by have := (HOF.out b o s h).2; simp; omega⟩))
        clear hown5 hgr5 hat5 hgA
        go_wp2_with fail
        go_roundw
        case rel => exact ⟨k + 1, Q ++ [(⟨a4, n4, c4, l⟩ : Lo Int)], by omega, by go_num, HG5.out, HO5.out, by rw [List.map_append, HMP.out, HTK.out]; rfl⟩
        case measure => simp [intOf]; omega
      · have hlt2 : ¬ (k : Int) < (f.length : Int) := by omega
        have hmp := HMP.out
        rw [show k = f.length by omega, List.take_length] at hmp
        have hown : FamAt wr _ f := ⟨Q, HO.out.at_, HO.out.ins, hmp⟩
        have HFAMO_ := Lib.hid hown
        obtain ⟨aOW, cOW, hov, _, _⟩ := hown.out
        subst hov
        clear hmp hown HMP HO HLE HG
        have hgr2 : Grow wz1 wr := by first | exact hg | exact Grow.trans ((Grow.refl _).alloc _) hg | exact Grow.trans (((Grow.refl _).alloc _).alloc _) hg | exact Grow.trans ((((Grow.refl _).alloc _).alloc _).alloc _) hg | exact Grow.trans (((((Grow.refl _).alloc _).alloc _).alloc _).alloc _) hg | exact Grow.trans ((Grow.refl _).drewN _) hg
        have HF_2 := Lib.hid (HF_1.out.grow hgr2)
        have GCH2 := Lib.hid (GCH1.out.trans hgr2)
        clear hg hgr2 HF_1 GCH1
        obtain ⟨w3, rfl⟩ : ∃ W : World, W = wr := ⟨_, rfl⟩
        have GWR := Lib.hid (Grow.refl w3)
        have HFAMO0_ := Lib.hid HFAMO_.out
        have HFPAR := Lib.hid HF_2.out
        have GCH0_ := Lib.hid GCH2.out
        go_wp2_with fail
        refine Least_any f _ _ (by first | exact HFAMO_.out | exact HFAMO_.out.grow ((Grow.refl _).alloc _) | exact HFAMO_.out.grow (((Grow.refl _).alloc _).alloc _) | exact HFAMO_.out.grow ((((Grow.refl _).alloc _).alloc _).alloc _) | exact HFAMO_.out.grow (((((Grow.refl _).alloc _).alloc _).alloc _).alloc _) | exact HFAMO_.out.grow ((Grow.refl _).drewN _)) _ ?_
        intro wz3 x3_0 hg3 hx3_0
        have hNEW := hx3_0
        rw [HA.out] at hNEW
        have NEWA := Lib.hid hNEW
        clear hNEW
        have hgr3 : Grow w3 wz3 := by first | exact hg3 | exact Grow.trans ((Grow.refl _).alloc _) hg3 | exact Grow.trans (((Grow.refl _).alloc _).alloc _) hg3 | exact Grow.trans ((((Grow.refl _).alloc _).alloc _).alloc _) hg3 | exact Grow.trans (((((Grow.refl _).alloc _).alloc _).alloc _).alloc _) hg3 | exact Grow.trans ((Grow.refl _).drewN _) hg3
        have HF_3 := Lib.hid (HF_2.out.grow hgr3)
        have HFAMO_3 := Lib.hid (HFAMO_.out.grow hgr3)
        have GWR3 := Lib.hid (GWR.out.grow hgr3)
        have GCH3 := Lib.hid (GCH2.out.trans hgr3)
        clear hg3 hgr3 HF_2 HFAMO_ GWR GCH2
        rw [HA.out] at hx3_0
        have hyHFAMA_3 := hx3_0.fam
        have HFAMA_3 := Lib.hid hyHFAMA_3
        obtain ⟨aHFAMA_3, cHFAMA_3, rfl, qHFAMA_31, qHFAMA_32⟩ := FamAt.out hyHFAMA_3
        clear hx3_0
        rw [HE.out]
        go_wp2_with fail
        refine r3Least_any f _ _ (by first | exact HF_3.out | exact HF_3.out.grow ((Grow.refl _).alloc _) | exact HF_3.out.grow (((Grow.refl _).alloc _).alloc _) | exact HF_3.out.grow ((((Grow.refl _).alloc _).alloc _).alloc _) | exact HF_3.out.grow (((((Grow.refl _).alloc _).alloc _).alloc _).alloc _) | exact HF_3.out.grow ((Grow.refl _).drewN _)) _ ?_
        intro wz4 x4_0 hg4 hx4_0
        have hgr4 : Grow wz3 wz4 := by first | exact hg4 | exact Grow.trans ((Grow.refl _).alloc _) hg4 | exact Grow.trans (((Grow.refl _).alloc _).alloc _) hg4 | exact Grow.trans ((((Grow.refl _).alloc _).alloc _).alloc _) hg4 | exact Grow.trans (((((Grow.refl _).alloc _).alloc _).alloc _).alloc _) hg4 | exact Grow.trans ((Grow.refl _).drewN _) hg4
        have HF_4 := Lib.hid (HF_3.out.grow hgr4)
        have HFAMO_4 := Lib.hid (HFAMO_3.out.grow hgr4)
        have GWR4 := Lib.hid (GWR3.out.grow hgr4)
        have HFAMA_4 := Lib.hid (HFAMA_3.out.grow hgr4)
        have NEWA4 := Lib.hid (NEWA.out.grow hgr4)
        have GCH4 := Lib.hid (GCH3.out.trans hgr4)
        clear hg4 hgr4 HF_3 HFAMO_3 GWR3 HFAMA_3 NEWA GCH3
        rw [HA.out] at hx4_0
        have hyHFAMB_4 := hx4_0
        have HFAMB_4 := Lib.hid hyHFAMB_4
        obtain ⟨aHFAMB_4, cHFAMB_4, rfl, qHFAMB_41, qHFAMB_42⟩ := FamAt.out hyHFAMB_4
        clear hx4_0
        rw [HE.out]
        go_wp2_with fail
        refine sameF_any A A _ _ _ (by first | exact HFAMA_4.out | exact HFAMA_4.out.grow ((Grow.refl _).alloc _) | exact HFAMA_4.out.grow (((Grow.refl _).alloc _).alloc _) | exact HFAMA_4.out.grow ((((Grow.refl _).alloc _).alloc _).alloc _) | exact HFAMA_4.out.grow (((((Grow.refl _).alloc _).alloc _).alloc _).alloc _) | exact HFAMA_4.out.grow ((Grow.refl _).drewN _)) (by first | exact HFAMB_4.out | exact HFAMB_4.out.grow ((Grow.refl _).alloc _) | exact HFAMB_4.out.grow (((Grow.refl _).alloc _).alloc _) | exact HFAMB_4.out.grow ((((Grow.refl _).alloc _).alloc _).alloc _) | exact HFAMB_4.out.grow (((((Grow.refl _).alloc _).alloc _).alloc _).alloc _) | exact HFAMB_4.out.grow ((Grow.refl _).drewN _)) _ ?_
        intro wz5 hg5 
        have hgr5 : Grow wz4 wz5 := by first | exact hg5 | exact Grow.trans ((Grow.refl _).alloc _) hg5 | exact Grow.trans (((Grow.refl _).alloc _).alloc _) hg5 | exact Grow.trans ((((Grow.refl _).alloc _).alloc _).alloc _) hg5 | exact Grow.trans (((((Grow.refl _).alloc _).alloc _).alloc _).alloc _) hg5 | exact Grow.trans ((Grow.refl _).drewN _) hg5
        have HF_5 := Lib.hid (HF_4.out.grow hgr5)
        have HFAMO_5 := Lib.hid (HFAMO_4.out.grow hgr5)
        have GWR5 := Lib.hid (GWR4.out.grow hgr5)
        have HFAMA_5 := Lib.hid (HFAMA_4.out.grow hgr5)
        have NEWA5 := Lib.hid (NEWA4.out.grow hgr5)
        have HFAMB_5 := Lib.hid (HFAMB_4.out.grow hgr5)
        have GCH5 := Lib.hid (GCH4.out.trans hgr5)
        clear hg5 hgr5 HF_4 HFAMO_4 GWR4 HFAMA_4 NEWA4 HFAMB_4 GCH4
        rw [show decide (A = A) = true from decide_eq_true rfl]
        go_wp2_with fail
        refine Blocker_any f _ _ (by first | exact HF_5.out | exact HF_5.out.grow ((Grow.refl _).alloc _) | exact HF_5.out.grow (((Grow.refl _).alloc _).alloc _) | exact HF_5.out.grow ((((Grow.refl _).alloc _).alloc _).alloc _) | exact HF_5.out.grow (((((Grow.refl _).alloc _).alloc _).alloc _).alloc _) | exact HF_5.out.grow ((Grow.refl _).drewN _)) _ ?_
        intro wz6 x6_0 hg6 hx6_0
        have hgr6 : Grow wz5 wz6 := by first | exact hg6 | exact Grow.trans ((Grow.refl _).alloc _) hg6 | exact Grow.trans (((Grow.refl _).alloc _).alloc _) hg6 | exact Grow.trans ((((Grow.refl _).alloc _).alloc _).alloc _) hg6 | exact Grow.trans (((((Grow.refl _).alloc _).alloc _).alloc _).alloc _) hg6 | exact Grow.trans ((Grow.refl _).drewN _) hg6
        have HF_6 := Lib.hid (HF_5.out.grow hgr6)
        have HFAMO_6 := Lib.hid (HFAMO_5.out.grow hgr6)
        have GWR6 := Lib.hid (GWR5.out.grow hgr6)
        have HFAMA_6 := Lib.hid (HFAMA_5.out.grow hgr6)
        have NEWA6 := Lib.hid (NEWA5.out.grow hgr6)
        have HFAMB_6 := Lib.hid (HFAMB_5.out.grow hgr6)
        have GCH6 := Lib.hid (GCH5.out.trans hgr6)
        clear hg6 hgr6 HF_5 HFAMO_5 GWR5 HFAMA_5 NEWA5 HFAMB_5 GCH5
        rw [HX.out] at hx6_0
        have hyHFAMX_6 := hx6_0.fam
        have HFAMX_6 := Lib.hid hyHFAMX_6
        obtain ⟨aHFAMX_6, cHFAMX_6, rfl, qHFAMX_61, qHFAMX_62⟩ := FamAt.out hyHFAMX_6
        clear hx6_0
        rw [HE.out]
        go_wp2_with fail
        refine Blocker_any A _ _ (by first | exact HFAMA_6.out | exact HFAMA_6.out.grow ((Grow.refl _).alloc _) | exact HFAMA_6.out.grow (((Grow.refl _).alloc _).alloc _) | exact HFAMA_6.out.grow ((((Grow.refl _).alloc _).alloc _).alloc _) | exact HFAMA_6.out.grow (((((Grow.refl _).alloc _).alloc _).alloc _).alloc _) | exact HFAMA_6.out.grow ((Grow.refl _).drewN _)) _ ?_
        intro wz7 x7_0 hg7 hx7_0
        have hgr7 : Grow wz6 wz7 := by first | exact hg7 | exact Grow.trans ((Grow.refl _).alloc _) hg7 | exact Grow.trans (((Grow.refl _).alloc _).alloc _) hg7 | exact Grow.trans ((((Grow.refl _).alloc _).alloc _).alloc _) hg7 | exact Grow.trans (((((Grow.refl _).alloc _).alloc _).alloc _).alloc _) hg7 | exact Grow.trans ((Grow.refl _).drewN _) hg7
        have HF_7 := Lib.hid (HF_6.out.grow hgr7)
        have HFAMO_7 := Lib.hid (HFAMO_6.out.grow hgr7)
        have GWR7 := Lib.hid (GWR6.out.grow hgr7)
        have HFAMA_7 := Lib.hid (HFAMA_6.out.grow hgr7)
        have NEWA7 := Lib.hid (NEWA6.out.grow hgr7)
        have HFAMB_7 := Lib.hid (HFAMB_6.out.grow hgr7)
        have HFAMX_7 := Lib.hid (HFAMX_6.out.grow hgr7)
        have GCH7 := Lib.hid (GCH6.out.trans hgr7)
        clear hg7 hgr7 HF_6 HFAMO_6 GWR6 HFAMA_6 NEWA6 HFAMB_6 HFAMX_6 GCH6
        rw [HY.out] at hx7_0
        have hyHFAMY_7 := hx7_0.fam
        have HFAMY_7 := Lib.hid hyHFAMY_7
        obtain ⟨aHFAMY_7, cHFAMY_7, rfl, qHFAMY_71, qHFAMY_72⟩ := FamAt.out hyHFAMY_7
        clear hx7_0
        rw [HVA.out]
        by_cases h0 : e = 0
        rotate_left
        · have t1 : (e != 0) = true := by simpa using h0
          clear h0
          go_wp2_with fail
          have hnew := NEWA7.out
          obtain ⟨LA, hai, hmpA, _⟩ := AInv.of hnew
          have hlA : LA.length = A.length := by rw [← hmpA, List.length_map]
          have HAI := Lib.hid hai
          clear hnew hai hmpA
          go_loopw [14, 15] (fun i _ wr => ∃ q : Nat, q ≤ A.length ∧ i = .int .i64 q ∧ Grow w3 wr ∧ AInv w3.heap.size LA (.slice aHFAMA_3 A.length cHFAMA_3) wr) (fun i _ _ => A.length - (intOf i).toNat)
          case atStart => exact ⟨0, Nat.zero_le _, rfl, GWR7.out, HAI.out⟩
          case round =>
            obtain ⟨q, hq, rfl, hgq, haq⟩ := hrel
            have HGQ := Lib.hid hgq
            have HAQ := Lib.hid haq
            clear haq
            by_cases hql : q < A.length
            · clear hgq
              obtain ⟨⟨ua, un, uc, ux⟩, hu⟩ : ∃ u, LA[q]? = some u := ⟨_, List.getElem?_eq_getElem (by omega)⟩
              obtain ⟨b, o, hao, hb, e0⟩ := lo_at HAQ.out.outer hu
              dsimp only at e0
              have HUM := Lib.hid (List.mem_of_getElem? hu)
              have hun := HAQ.out.small _ HUM.out
              dsimp only at hun
              have HU := Lib.hid hu
              have hql2 : (q : Int) < (A.length : Int) := by omega
              clear hu
              have HAO := Lib.hid hao
              rw [hao] at HAQ ⊢
              clear hao
              go_wp2_with fail
              obtain ⟨wo, rfl⟩ : ∃ W : World, W = wr := ⟨_, rfl⟩
              go_loopw [15] (fun m wr => ∃ j : Nat, j ≤ un ∧ m = .int .i64 j ∧ Grow w3 wr ∧ AInv w3.heap.size LA (.slice (some ⟨b, o, none⟩) A.length cHFAMA_3) wr) (fun m _ => un - (intOf m).toNat)
              case atStart => exact ⟨0, Nat.zero_le _, rfl, HGQ.out, HAQ.out⟩
              case round =>
                obtain ⟨j, hj, rfl, hgj, haj⟩ := hrel
                obtain ⟨b1, o1, hao1, hb1, e1⟩ := lo_at haj.outer HU.out
                cases hao1
                dsimp only at e1
                have HGJ := Lib.hid hgj
                have HAJ := Lib.hid haj
                clear hgj haj
                by_cases hjl : j < un
                · have hjl2 : (j : Int) < (un : Int) := by omega
                  obtain ⟨b2, o2, u2, hua, hb2, e2, z2, hne⟩ := HAJ.out.inner _ HUM.out j hjl
                  dsimp only at hua
                  subst hua
                  have hbl2 := World.block_lt_of_cell? _ _ e2
                  dsimp only at hbl2
                  have HNE := Lib.hid hne
                  clear hne
                  go_wp2_with fail
                  go_roundw
                  case rel => exact ⟨j + 1, by omega, by go_num, Below.setCell HGJ.out hb2 _, HAJ.out.store HNE.out _⟩
                  case measure => simp [intOf]; omega
                · have hjl2 : ¬ (j : Int) < (un : Int) := by omega
                  go_wp2_with fail
                  go_roundw
                  case rel => exact ⟨q + 1, by omega, by go_num, HGJ.out, by first | exact HAJ.out | (rw [HAO.out]; exact HAJ.out)⟩
                  case measure => simp [intOf]; omega
            · have hql2 : ¬ (q : Int) < (A.length : Int) := by omega
              have HOE := Lib.hid (HFAMO0_.out.grow hgq)
              have HFE := Lib.hid (HFPAR.out.grow hgq)
              have GCE := Lib.hid (GCH0_.out.trans hgq)
              clear hgq
              go_wp2_with fail
              refine sameF_any f f _ _ _ (by first | exact HOE.out | exact HOE.out.grow ((Grow.refl _).alloc _) | exact HOE.out.grow (((Grow.refl _).alloc _).alloc _) | exact HOE.out.grow ((((Grow.refl _).alloc _).alloc _).alloc _) | exact HOE.out.grow (((((Grow.refl _).alloc _).alloc _).alloc _).alloc _) | exact HOE.out.grow ((Grow.refl _).drewN _)) (by first | exact HFE.out | exact HFE.out.grow ((Grow.refl _).alloc _) | exact HFE.out.grow (((Grow.refl _).alloc _).alloc _) | exact HFE.out.grow ((((Grow.refl _).alloc _).alloc _).alloc _) | exact HFE.out.grow (((((Grow.refl _).alloc _).alloc _).alloc _).alloc _) | exact HFE.out.grow ((Grow.refl _).drewN _)) _ ?_
              intro wz8 hg8 
              have hgr8 : Grow wr wz8 := by first | exact hg8 | exact Grow.trans ((Grow.refl _).alloc _) hg8 | exact Grow.trans (((Grow.refl _).alloc _).alloc _) hg8 | exact Grow.trans ((((Grow.refl _).alloc _).alloc _).alloc _) hg8 | exact Grow.trans (((((Grow.refl _).alloc _).alloc _).alloc _).alloc _) hg8 | exact Grow.trans ((Grow.refl _).drewN _) hg8
              have HOE8 := Lib.hid (HOE.out.grow hgr8)
              have HFE8 := Lib.hid (HFE.out.grow hgr8)
              have GCH8 := Lib.hid (GCE.out.trans hgr8)
              clear hg8 hgr8 HOE HFE GCE
              rw [show decide (f = f) = true from decide_eq_true rfl]
              go_wp2_with fail
              refine known3_any _ _ ?_
              intro wz9 hg9 
              have hgr9 : Grow wz8 wz9 := by first | exact hg9 | exact Grow.trans ((Grow.refl _).alloc _) hg9 | exact Grow.trans (((Grow.refl _).alloc _).alloc _) hg9 | exact Grow.trans ((((Grow.refl _).alloc _).alloc _).alloc _) hg9 | exact Grow.trans (((((Grow.refl _).alloc _).alloc _).alloc _).alloc _) hg9 | exact Grow.trans ((Grow.refl _).drewN _) hg9
              have HOE9 := Lib.hid (HOE8.out.grow hgr9)
              have HFE9 := Lib.hid (HFE8.out.grow hgr9)
              have GCH9 := Lib.hid (GCH8.out.trans hgr9)
              clear hg9 hgr9 HOE8 HFE8 GCH8
              go_wp2_with fail
              first | exact HR.out _ (GCH9.out) | exact HR.out _ (Grow.trans GCH9.out ((Grow.refl _).alloc _)) | exact HR.out _ (Grow.trans GCH9.out (((Grow.refl _).alloc _).alloc _)) | exact HR.out _ (Grow.trans GCH9.out ((((Grow.refl _).alloc _).alloc _).alloc _)) | exact HR.out _ (Grow.trans GCH9.out (((((Grow.refl _).alloc _).alloc _).alloc _).alloc _)) | exact HR.out _ (Grow.trans GCH9.out ((Grow.refl _).drewN _))
        subst h0
        have hyx := HYX.out rfl
        subst hyx
        go_wp2_with fail
        refine sameF_any Y Y _ _ _ (by first | exact HFAMX_7.out | exact HFAMX_7.out.grow ((Grow.refl _).alloc _) | exact HFAMX_7.out.grow (((Grow.refl _).alloc _).alloc _) | exact HFAMX_7.out.grow ((((Grow.refl _).alloc _).alloc _).alloc _) | exact HFAMX_7.out.grow (((((Grow.refl _).alloc _).alloc _).alloc _).alloc _) | exact HFAMX_7.out.grow ((Grow.refl _).drewN _)) (by first | exact HFAMY_7.out | exact HFAMY_7.out.grow ((Grow.refl _).alloc _) | exact HFAMY_7.out.grow (((Grow.refl _).alloc _).alloc _) | exact HFAMY_7.out.grow ((((Grow.refl _).alloc _).alloc _).alloc _) | exact HFAMY_7.out.grow (((((Grow.refl _).alloc _).alloc _).alloc _).alloc _) | exact HFAMY_7.out.grow ((Grow.refl _).drewN _)) _ ?_
        intro wz8 hg8 
        have hgr8 : Grow wz7 wz8 := by first | exact hg8 | exact Grow.trans ((Grow.refl _).alloc _) hg8 | exact Grow.trans (((Grow.refl _).alloc _).alloc _) hg8 | exact Grow.trans ((((Grow.refl _).alloc _).alloc _).alloc _) hg8 | exact Grow.trans (((((Grow.refl _).alloc _).alloc _).alloc _).alloc _) hg8 | exact Grow.trans ((Grow.refl _).drewN _) hg8
        have HF_8 := Lib.hid (HF_7.out.grow hgr8)
        have HFAMO_8 := Lib.hid (HFAMO_7.out.grow hgr8)
        have GWR8 := Lib.hid (GWR7.out.grow hgr8)
        have HFAMA_8 := Lib.hid (HFAMA_7.out.grow hgr8)
        have NEWA8 := Lib.hid (NEWA7.out.grow hgr8)
        have HFAMB_8 := Lib.hid (HFAMB_7.out.grow hgr8)
        have HFAMX_8 := Lib.hid (HFAMX_7.out.grow hgr8)
        have HFAMY_8 := Lib.hid (HFAMY_7.out.grow hgr8)
        have GCH8 := Lib.hid (GCH7.out.trans hgr8)
        clear hg8 hgr8 HF_7 HFAMO_7 GWR7 HFAMA_7 NEWA7 HFAMB_7 HFAMX_7 HFAMY_7 GCH7
        rw [show decide (Y = Y) = true from decide_eq_true rfl]
        go_wp2_with fail
        have hnew := NEWA8.out
        obtain ⟨LA, hai, hmpA, _⟩ := AInv.of hnew
        have hlA : LA.length = A.length := by rw [← hmpA, List.length_map]
        have HAI := Lib.hid hai
        clear hnew hai hmpA
        go_loopw [14, 15] (fun i _ wr => ∃ q : Nat, q ≤ A.length ∧ i = .int .i64 q ∧ Grow w3 wr ∧ AInv w3.heap.size LA (.slice aHFAMA_3 A.length cHFAMA_3) wr) (fun i _ _ => A.length - (intOf i).toNat)
        case atStart => exact ⟨0, Nat.zero_le _, rfl, GWR8.out, HAI.out⟩
        case round =>
          obtain ⟨q, hq, rfl, hgq, haq⟩ := hrel
          have HGQ := Lib.hid hgq
          have HAQ := Lib.hid haq
          clear haq
          by_cases hql : q < A.length
          · clear hgq
            obtain ⟨⟨ua, un, uc, ux⟩, hu⟩ : ∃ u, LA[q]? = some u := ⟨_, List.getElem?_eq_getElem (by omega)⟩
            obtain ⟨b, o, hao, hb, e0⟩ := lo_at HAQ.out.outer hu
            dsimp only at e0
            have HUM := Lib.hid (List.mem_of_getElem? hu)
            have hun := HAQ.out.small _ HUM.out
            dsimp only at hun
            have HU := Lib.hid hu
            have hql2 : (q : Int) < (A.length : Int) := by omega
            clear hu
            have HAO := Lib.hid hao
            rw [hao] at HAQ ⊢
            clear hao
            go_wp2_with fail
            obtain ⟨wo, rfl⟩ : ∃ W : World, W = wr := ⟨_, rfl⟩
            go_loopw [15] (fun m wr => ∃ j : Nat, j ≤ un ∧ m = .int .i64 j ∧ Grow w3 wr ∧ AInv w3.heap.size LA (.slice (some ⟨b, o, none⟩) A.length cHFAMA_3) wr) (fun m _ => un - (intOf m).toNat)
            case atStart => exact ⟨0, Nat.zero_le _, rfl, HGQ.out, HAQ.out⟩
            case round =>
              obtain ⟨j, hj, rfl, hgj, haj⟩ := hrel
              obtain ⟨b1, o1, hao1, hb1, e1⟩ := lo_at haj.outer HU.out
              cases hao1
              dsimp only at e1
              have HGJ := Lib.hid hgj
              have HAJ := Lib.hid haj
              clear hgj haj
              by_cases hjl : j < un
              · have hjl2 : (j : Int) < (un : Int) := by omega
                obtain ⟨b2, o2, u2, hua, hb2, e2, z2, hne⟩ := HAJ.out.inner _ HUM.out j hjl
                dsimp only at hua
                subst hua
                have hbl2 := World.block_lt_of_cell? _ _ e2
                dsimp only at hbl2
                have HNE := Lib.hid hne
                clear hne
                go_wp2_with fail
                go_roundw
                case rel => exact ⟨j + 1, by omega, by go_num, Below.setCell HGJ.out hb2 _, HAJ.out.store HNE.out _⟩
                case measure => simp [intOf]; omega
              · have hjl2 : ¬ (j : Int) < (un : Int) := by omega
                go_wp2_with fail
                go_roundw
                case rel => exact ⟨q + 1, by omega, by go_num, HGJ.out, by first | exact HAJ.out | (rw [HAO.out]; exact HAJ.out)⟩
                case measure => simp [intOf]; omega
          · have hql2 : ¬ (q : Int) < (A.length : Int) := by omega
            have HOE := Lib.hid (HFAMO0_.out.grow hgq)
            have HFE := Lib.hid (HFPAR.out.grow hgq)
            have GCE := Lib.hid (GCH0_.out.trans hgq)
            clear hgq
            go_wp2_with fail
            refine sameF_any f f _ _ _ (by first | exact HOE.out | exact HOE.out.grow ((Grow.refl _).alloc _) | exact HOE.out.grow (((Grow.refl _).alloc _).alloc _) | exact HOE.out.grow ((((Grow.refl _).alloc _).alloc _).alloc _) | exact HOE.out.grow (((((Grow.refl _).alloc _).alloc _).alloc _).alloc _) | exact HOE.out.grow ((Grow.refl _).drewN _)) (by first | exact HFE.out | exact HFE.out.grow ((Grow.refl _).alloc _) | exact HFE.out.grow (((Grow.refl _).alloc _).alloc _) | exact HFE.out.grow ((((Grow.refl _).alloc _).alloc _).alloc _) | exact HFE.out.grow (((((Grow.refl _).alloc _).alloc _).alloc _).alloc _) | exact HFE.out.grow ((Grow.refl _).drewN _)) _ ?_
            intro wz9 hg9 
            have hgr9 : Grow wr wz9 := by first | exact hg9 | exact Grow.trans ((Grow.refl _).alloc _) hg9 | exact Grow.trans (((Grow.refl _).alloc _).alloc _) hg9 | exact Grow.trans ((((Grow.refl _).alloc _).alloc _).alloc _) hg9 | exact Grow.trans (((((Grow.refl _).alloc _).alloc _).alloc _).alloc _) hg9 | exact Grow.trans ((Grow.refl _).drewN _) hg9
            have HOE9 := Lib.hid (HOE.out.grow hgr9)
            have HFE9 := Lib.hid (HFE.out.grow hgr9)
            have GCH9 := Lib.hid (GCE.out.trans hgr9)
            clear hg9 hgr9 HOE HFE GCE
            rw [show decide (f = f) = true from decide_eq_true rfl]
            go_wp2_with fail
            refine known3_any _ _ ?_
            intro wz10 hg10 
            have hgr10 : Grow wz9 wz10 := by first | exact hg10 | exact Grow.trans ((Grow.refl _).alloc _) hg10 | exact Grow.trans (((Grow.refl _).alloc _).alloc _) hg10 | exact Grow.trans ((((Grow.refl _).alloc _).alloc _).alloc _) hg10 | exact Grow.trans (((((Grow.refl _).alloc _).alloc _).alloc _).alloc _) hg10 | exact Grow.trans ((Grow.refl _).drewN _) hg10
            have HOE10 := Lib.hid (HOE9.out.grow hgr10)
            have HFE10 := Lib.hid (HFE9.out.grow hgr10)
            have GCH10 := Lib.hid (GCH9.out.trans hgr10)
            clear hg10 hgr10 HOE9 HFE9 GCH9
            go_wp2_with fail
            first | exact HR.out _ (GCH10.out) | exact HR.out _ (Grow.trans GCH10.out ((Grow.refl _).alloc _)) | exact HR.out _ (Grow.trans GCH10.out (((Grow.refl _).alloc _).alloc _)) | exact HR.out _ (Grow.trans GCH10.out ((((Grow.refl _).alloc _).alloc _).alloc _)) | exact HR.out _ (Grow.trans GCH10.out (((((Grow.refl _).alloc _).alloc _).alloc _).alloc _)) | exact HR.out _ (Grow.trans GCH10.out ((Grow.refl _).drewN _))
end Go.Proofs.YtmlbgfnddgbpbaaGreat

namespace Go.Proofs.YtmlbgfnddgbpbaaGreat
open Go.ChangeShapes Go.WideShapes Go.ChangeAt Go.RowKit

theorem Tryz.own : ownKnob Tryz.prog.godebug = none := by kernel_rfl
theorem Tryz.laidOut : laidOutB Tryz.prog = true := by kernel_rfl

set_option maxRecDepth 100000 in
set_option maxHeartbeats 4000000 in
theorem blameLeast_lifted (os : Os) (started : os.Started) (H : Type) (enc : TypeId × Value → H) :
    ReturnsInHanded {} Tryz.checked os 4 .any (Rows.blameLeastSpec.pre6 enc Tryz.prog Tryz.f4 Rows.blameLeastRow.domain false) (Rows.blameLeastSpec.post enc Tryz.prog Tryz.f4 false true false false) := by
  refine returnsInHanded_of_change (C := Tryz.checked) Tryz.own started (by kernel_rfl) Tryz.func4
    (ChangeSpec.witness6 (enc := enc) (C := Tryz.checked) false ⟨#[], #[.slice none 0 0], []⟩ 8 (by kernel_rfl) (by kernel_rfl) (by kernel_rfl) (by kernel_rfl)) ?_
  intro W base args ds gs before hval0 hW hcnd _
  have hval : ∀ (j : Nat) t v, Tryz.f4.params[j]? = some t → args[j]? = some v → Value.okWide Tryz.prog W .any base t v := hval0
  have hW' := hW
  obtain ⟨p, q, hA0, hV, rfl, hfz, hnd⟩ := hW
  have hA : DataW.TrodAll enc Tryz.prog W 0 (fun _ => true) true Tryz.f4.params.toList args.toList ds p := hA0
  rw [Tryz.params4] at hA hval
  obtain ⟨v0, d0, rfl, rfl, h0⟩ := trodAll_one hA
  obtain ⟨rfl, rfl⟩ := trodVars_none hV
  have hk0 := h0
  obtain ⟨x0, hx0⟩ := arg_fam (hval 0 22 v0 rfl rfl) h0
  clear hA0 hval0
  refine Calls.mono (blameLeast_any x0 W v0 hx0 (fun e W' => e = .returned (.bool true) ∧ Grow W W') (fun W' hg => ⟨rfl, hg⟩)) fun e W' ⟨he, hB⟩ => ?_
  subst he
  have hlt0 : ∀ x ∈ p, x.block < W.heap.size := fun x hx => hW'.lt x (List.mem_append_left _ hx)
  have ht0 := Below.trod Tryz.laidOut (by kernel_rfl) (of_decide_eq_true (by kernel_rfl)) hk0 hB hlt0
  exact ⟨_, rfl, _, _, _, [], p, [], hW', trodAll_mk1 (shut_bool Tryz.underlying4 true), trodAll_mk1 ht0, rfl, hB.frame _, fun h => by cases h⟩

theorem blameLeast_holds : Rows.BlameLeastSaid :=
  OpenClaim.holds_of_wide 4 Tryz.f4 rfl rfl rfl rfl rfl rfl rfl ⟨rfl, rfl, rfl, rfl, rfl⟩ rfl rfl rfl rfl rfl (by kernel_rfl) Tryz.func4 (by kernel_rfl)
    (of_decide_eq_true (by kernel_rfl)) (by unfold Func.isWrapper; first | (rw [if_pos (by decide +kernel)]; kernel_rfl) | (rw [if_neg (by decide +kernel)]; exact ⟨rfl, rfl⟩))
    (fun os started H enc _ => blameLeast_lifted os started H enc)

end Go.Proofs.YtmlbgfnddgbpbaaGreat
