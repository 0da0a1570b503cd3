/-



-/
import Derived.Test.YtmeejlgnhfkeaaaGreatDoorL16
import Derived.Test.YtmeejlgnhfkeaaaGreatDoorL18
import Derived.Test.YtmeejlgnhfkeaaaGreatDoorL19
import Derived.Test.YtmeejlgnhfkeaaaGreatDoorL09
import Derived.Test.YtmeejlgnhfkeaaaGreatDoorL10
import Derived.Test.YtmeejlgnhfkeaaaGreatDoorL15
import Derived.Test.YtmeejlgnhfkeaaaGreatDoorL17
import Derived.Test.YtmeejlgnhfkeaaaGreatDoorL08
namespace Go.Proofs.YtmeejlgnhfkeaaaGreatDoor
open Go.RowKit
theorem edits_lits (w : World) (xs : List Ed) (T : TypeId) (hl : xs.length ≤ 1000) : EditsAt (w.alloc (.cells (xs.flatMap encE).toArray T)) (.slice (some ⟨w.heap.size, 0, none⟩) xs.length xs.length) xs := by
 refine ⟨_, xs.length, rfl, Nat.le_refl _, by omega, .inr ⟨w.heap.size, 0, rfl, by rw [World.size_alloc]; omega, ?_⟩⟩
 intro j x hj i u hu
 have hi : i < 5 := by have := (List.getElem?_eq_some_iff.1 hu).1; rw [encE_len] at this; exact this
 rw [Nat.zero_add, World.cell?_alloc_new]
 have := flatMap_getElem? encE_len xs j x hj i hi
 simpa [this] using hu
def toLst (t : Lo Ed) : Lst := ⟨t.a, t.n, t.c, t.x⟩
theorem lists_of {w : World} {v : Value} {L : List (Lo Ed)} (h : SlcAt 1 encLo w v L) (hi : ∀ t ∈ L, EditsAt w t.v t.x) : ListsAt w v (L.map toLst) := by
 refine ⟨?_, fun t ht => by obtain ⟨u, hu, rfl⟩ := List.mem_map.1 ht; exact hi u hu⟩
 obtain ⟨a, c, rfl, h1, h2, h3⟩ := h
 refine ⟨a, c, by rw [List.length_map], by rw [List.length_map]; exact h1, h2, ?_⟩
 rcases h3 with ⟨rfl, h3⟩ | ⟨b, o, rfl, hb, h3⟩
 ·exact .inl ⟨rfl, h3⟩
 ·refine .inr ⟨b, o, rfl, hb, fun j x hx i u hu => ?_⟩
  rw [List.getElem?_map] at hx
  cases hj : L[j]? with
  | none => rw [hj] at hx; cases hx
  | some t => rw [hj] at hx; cases hx; exact h3 j t hj i u hu
theorem kept_blk {w w' : World} {base n k : Nat} {T T' : TypeId} {v : Value} {ys : List Value} {b : Nat} {cs : Array Value} {fz : Nat × Nat} (ho : w.ownsRow base T k v n ys) (hg : w.grownBy w' v.ownBlock) (hb : w.heap[b]? = some (.cells cs T' fz)) (hne : T' ≠ T) : w'.heap[b]? = some (.cells cs T' fz) := by
 have hn : some b ≠ v.ownBlock := by
  intro he
  rcases ho.2 with ⟨hv, _⟩ | ⟨g, cap, cur, hv, _, hh, _⟩
  ·subst hv
   simp [Value.ownBlock] at he
  ·subst hv
   have hbg : b = g := by simpa [Value.ownBlock] using he
   subst hbg
   rw [hb] at hh
   injection hh with hh
   injection hh with _ h2 _
   exact hne h2
 rw [hg.block b (lt_of_block hb) hn]
 exact hb
set_option maxRecDepth 100000 in
set_option maxHeartbeats 16000000 in
theorem double_any (p : List Ln) (ts : List Tst) (pv tv : Value) (w : World) (hp : LinesAt w pv p) (ht : TestsAt w tv ts) (hval : valP p = 0) (R : Ending → World → Prop)
  (hR0 : pairsL p ts (mutM p p.length) = [] → ∀ w', Grow w w' → R (.returned (.tuple #[.slice none 0 0, .bool false])) w')
  (hR1 : ∀ w' v (j : Nat) x, Grow w w' → (pairsL p ts (mutM p p.length))[j]? = some x → FirstMin ((pairsL p ts (mutM p p.length)).map (sizeE p)) j (sizeE p x) → EditsAt w' v x → NewS w.heap.size v → R (.returned (.tuple #[v, .bool true])) w') :
  Calls Tryz.prog 207 #[pv, tv] w R := by
 have HP := Lib.hid hp
 have HT := Lib.hid ht
 have hlen := mutM_short p p.length
 have hp8 := (valP_ok.1 hval).1
 have HV := Lib.hid hval
 obtain ⟨M, hM⟩ : ∃ M, mutM p p.length = M := ⟨_, rfl⟩
 rw [hM] at hR0 hR1 hlen
 have HM := Lib.hid hM
 have hM8 : M.length ≤ 160 := by omega
 have hPl := pairsL_len p ts M 160 hM8
 obtain ⟨PL, hPL⟩ : ∃ L, pairsL p ts M = L := ⟨_, rfl⟩
 rw [hPL] at hR0 hR1 hPl
 have hPl2 : PL.length ≤ 25600 := by
  have := Nat.mul_le_mul_right 160 hM8
  omega
 have HPL := Lib.hid hPL
 have HR0 := Lib.hid hR0
 have HR1 := Lib.hid hR1
 obtain ⟨pa, pc, rfl, jk1⟩ := hp
 obtain ⟨⟨ta, tc, rfl, jk2⟩, jk3⟩ := ht
 clear hR0 hR1 hval hM hPL hPl hlen jk1 jk2 jk3
 go_enter Tryz.func207, Tryz.ntmps207
 go_wp2_with fail
 refine mutants_any p _ _ HP.out HV.out _ ?_
 intro w2 v2 hg2 hv2
 rw [HM.out] at hv2
 have HX2 := Lib.hid hv2.edits
 obtain ⟨a2, c2, rfl, r1, r2, jk4⟩ := hv2.edits
 have HG0 := Lib.hid hg2
 clear hg2 jk4 hv2
 go_wp2_with fail
 go_loopw [6, 17] (fun out i wr => ∃ (k : Nat) (L : List (Lo Ed)), k ≤ M.length ∧ i = .int .i64 k ∧ Grow w2 wr ∧ LoOwn w2.heap.size 58 5 encE wr out L ∧ L.map Lo.x ++ pairsL p ts (M.drop k) = PL ∧ ∀ t ∈ L, NewS w.heap.size t.v) (fun _ i _ => M.length - (intOf i).toNat)
 case atStart => exact ⟨0, [], Nat.zero_le _, rfl, Grow.refl _, LoOwn.nil _ _ _ _ _, HPL.out, by simp⟩
 case round =>
  obtain ⟨k, L, hk, rfl, hg, how, hLx, hNL⟩ := hrel
  have HNL := Lib.hid hNL
  clear hNL
  have HGX := Lib.hid hg
  have HG := Lib.hid (HG0.out.trans hg)
  have HOW := Lib.hid how
  have HLX := Lib.hid hLx
  have hzw := hg.sz
  clear hg how hLx
  by_cases hlt : k < M.length
  ·obtain ⟨⟨t, op, d, a, b⟩, hx⟩ : ∃ x, M[k]? = some x := ⟨_, List.getElem?_eq_getElem hlt⟩
   obtain ⟨gb, o, rfl, hb, e0, e1, e2, e3, e4⟩ := edits_at (HX2.out.grow HGX.out) hx
   have hlt2 : (k : Int) < (M.length : Int) := by omega
   have HDR := Lib.hid (pairsL_drop (p := p) (ts := ts) hx)
   have hbx := heap_alloc_new wr (.cells #[.int .i64 t, .int .i64 op, .int .i64 d, .int .i64 a, .int .i64 b] 60)
   have hgx := (Grow.refl wr).alloc (.cells #[.int .i64 t, .int .i64 op, .int .i64 d, .int .i64 a, .int .i64 b] 60)
   have HBX := Lib.hid hbx
   have HGB := Lib.hid hgx
   clear hx hbx hgx
   obtain ⟨m, hm⟩ : ∃ m, M.length - (k + 1) = m := ⟨_, rfl⟩
   have HMM := Lib.hid (show M.length = k + 1 + m by omega)
   have hPQ : L.map Lo.x ++ (pairX p ts (⟨t, ⟨op, d, a, b⟩⟩ : Ed) (M.drop (k + 1)) ++ pairsL p ts (M.drop (k + 1))) = PL := by rw [← HDR.out]; exact HLX.out
   have HPQ := Lib.hid hPQ
   have HGO := Lib.hid (HOW.out.grow HGB.out)
   clear hPQ
   by_cases hcc : c2 = k + 1
   ·have hm0 : m = 0 := by omega
    have HNX := Lib.hid (show L.map Lo.x ++ pairsL p ts (M.drop (k + 1)) = PL by
     have := HPQ.out
     rw [List.drop_eq_nil_of_le (show M.length ≤ k + 1 by omega)] at this ⊢
     exact this)
    go_wp2_with fail
    try rw [hm0]
    generalize wr.alloc (.cells #[.int .i64 t, .int .i64 op, .int .i64 d, .int .i64 a, .int .i64 b] 60) = W at HGB HGO ⊢
    go_loopw [6, 27] (fun out i wr2 => i = .int .i64 0 ∧ wr2 = W ∧ out = u6) (fun _ _ _ => 0)
    case atStart => exact ⟨rfl, rfl, rfl⟩
    case round =>
     obtain ⟨rfl, rfl, rfl⟩ := hrel
     go_wp2_with fail
     go_roundw
     case rel => exact ⟨k + 1, L, by omega, by go_num, HGX.out.trans HGB.out, HGO.out, HNX.out, HNL.out⟩
     case measure => simp [intOf]; omega
   ·skip
    go_wp2_with fail
    skip
    have hsW : (wr.alloc (.cells #[.int .i64 t, .int .i64 op, .int .i64 d, .int .i64 a, .int .i64 b] 60)).heap.size = wr.heap.size + 1 := by simp
    have HGW := Lib.hid (HGX.out.trans HGB.out)
    generalize wr.alloc (.cells #[.int .i64 t, .int .i64 op, .int .i64 d, .int .i64 a, .int .i64 b] 60) = W at HBX HGB HGO HGW hsW ⊢
    obtain ⟨bx, hbx⟩ : ∃ z, wr.heap.size = z := ⟨_, rfl⟩
    rw [hbx] at HBX ⊢
    obtain ⟨wo, hwo⟩ : ∃ z : World, z = wr := ⟨_, rfl⟩
    clear hwo
    go_loopw [6, 27] (fun out i wr2 => ∃ (j : Nat) (L2 : List (Lo Ed)), j ≤ m ∧ i = .int .i64 j ∧ Grow w2 wr2 ∧ wr2.heap[bx]? = some (.cells #[.int .i64 t, .int .i64 op, .int .i64 d, .int .i64 a, .int .i64 b] 60 (0, 0)) ∧ LoOwn w2.heap.size 58 5 encE wr2 out L2 ∧ L2.map Lo.x ++ (pairX p ts (⟨t, ⟨op, d, a, b⟩⟩ : Ed) ((M.drop (k + 1)).drop j) ++ pairsL p ts (M.drop (k + 1))) = PL ∧ ∀ t ∈ L2, NewS w.heap.size t.v) (fun _ i _ => m - (intOf i).toNat)
    case atStart => exact ⟨0, L, Nat.zero_le _, rfl, HGW.out, HBX.out, HGO.out, HPQ.out, HNL.out⟩
    case round =>
     obtain ⟨j, L2, hj, rfl, hg2, hb2, how2, hLx2, hNL2⟩ := hrel
     have HNL2 := Lib.hid hNL2
     clear hNL2
     have HG2 := Lib.hid hg2
     have HB2 := Lib.hid hb2
     have HO2 := Lib.hid how2
     have HL2 := Lib.hid hLx2
     have hzw2 := hg2.sz
     have hL2 : L2.length ≤ 25600 := by
      have := congrArg List.length hLx2
      rw [List.length_append, List.length_map] at this
      omega
     clear hg2 hb2 how2 hLx2
     by_cases hjm : j < m
     ·have hjm2 : (j : Int) < (m : Int) := by omega
      obtain ⟨⟨t2, op2, d2, a2, b2⟩, hy⟩ : ∃ y, M[k + 1 + j]? = some y := ⟨_, List.getElem?_eq_getElem (by have := HMM.out; omega)⟩
      obtain ⟨gb', o', e', hgb', f0, f1, f2, f3, f4⟩ := edits_at (HX2.out.grow HG2.out) hy
      cases e'
      rw [show o + (k + 1 + j) * 5 = o + (k + 1) * 5 + j * 5 by omega] at f0 f1 f2 f3 f4
      have HPD := Lib.hid (pairX_drop (p := p) (ts := ts) (x := (⟨t, ⟨op, d, a, b⟩⟩ : Ed)) (ys := M.drop (k + 1)) (j := j) (y := (⟨t2, ⟨op2, d2, a2, b2⟩⟩ : Ed)) (by rw [List.getElem?_drop]; exact hy))
      obtain ⟨c0, c1, c2', c3, c4⟩ := box5 HB2.out
      have hzb := lt_of_block HB2.out
      obtain ⟨f, hf⟩ : ∃ f, dblB p ts (⟨t, ⟨op, d, a, b⟩⟩ : Ed) (⟨t2, ⟨op2, d2, a2, b2⟩⟩ : Ed) = f := ⟨_, rfl⟩
      rw [hf] at HPD
      have hgy := (Grow.refl wr).alloc (.cells #[.int .i64 t2, .int .i64 op2, .int .i64 d2, .int .i64 a2, .int .i64 b2] 60)
      have hgxy := hgy.alloc (.cells #[.int .i64 t, .int .i64 op, .int .i64 d, .int .i64 a, .int .i64 b, .int .i64 t2, .int .i64 op2, .int .i64 d2, .int .i64 a2, .int .i64 b2] 60)
      have HGXY := Lib.hid hgxy
      have HLE := Lib.hid (show L2.length < 100000000000 by omega)
      clear hy hgy hgxy
      by_cases htt : t < t2
      ·have hlit := edits_lits (wr.alloc (.cells #[.int .i64 t2, .int .i64 op2, .int .i64 d2, .int .i64 a2, .int .i64 b2] 60)) [(⟨t, ⟨op, d, a, b⟩⟩ : Ed), (⟨t2, ⟨op2, d2, a2, b2⟩⟩ : Ed)] 60 (by simp)
       rw [World.size_alloc] at hlit
       have HLIT := Lib.hid (show EditsAt ((wr.alloc (.cells #[.int .i64 t2, .int .i64 op2, .int .i64 d2, .int .i64 a2, .int .i64 b2] 60)).alloc (.cells #[.int .i64 t, .int .i64 op, .int .i64 d, .int .i64 a, .int .i64 b, .int .i64 t2, .int .i64 op2, .int .i64 d2, .int .i64 a2, .int .i64 b2] 60)) (.slice (some ⟨wr.heap.size + 1, 0, none⟩) 2 2) [(⟨t, ⟨op, d, a, b⟩⟩ : Ed), (⟨t2, ⟨op2, d2, a2, b2⟩⟩ : Ed)] from hlit)
       have hgf : (decide (chkX p [(⟨t, ⟨op, d, a, b⟩⟩ : Ed), (⟨t2, ⟨op2, d2, a2, b2⟩⟩ : Ed)] ts = 0) && goodM p [(⟨t, ⟨op, d, a, b⟩⟩ : Ed), (⟨t2, ⟨op2, d2, a2, b2⟩⟩ : Ed)] ts) = f := by
        rw [← hf]; unfold dblB; rw [decide_eq_true htt]; rfl
       have HGF := Lib.hid hgf
       clear hlit hgf hf
       go_wp2_with fail
       refine good_any p [(⟨t, ⟨op, d, a, b⟩⟩ : Ed), (⟨t2, ⟨op2, d2, a2, b2⟩⟩ : Ed)] ts _ _ _ _ (HP.out.grow (HG0.out.trans (HG2.out.trans HGXY.out))) HLIT.out (HT.out.grow (HG0.out.trans (HG2.out.trans HGXY.out))) _ ?_
       intro w5 hg5
       rw [HGF.out]
       have HG5 := Lib.hid (HG2.out.trans (HGXY.out.trans hg5))
       have HB5 := Lib.hid ((HGXY.out.trans hg5).blk HB2.out)
       have HO5 := Lib.hid (HO2.out.grow (HGXY.out.trans hg5))
       have HLIT5 := Lib.hid (HLIT.out.grow hg5)
       have hz5 := (HGXY.out.trans hg5).sz
       have hs5 : wr.heap.size + 2 ≤ w5.heap.size := by have := hg5.sz; simp at this; omega
       clear hg5 c0 c1 c2' c3 c4 f0 f1 f2 f3 f4
       cases f with
       | false =>
        have HPN := Lib.hid (show L2.map Lo.x ++ (pairX p ts (⟨t, ⟨op, d, a, b⟩⟩ : Ed) ((M.drop (k + 1)).drop (j + 1)) ++ pairsL p ts (M.drop (k + 1))) = PL by
         have := HL2.out; rw [HPD.out] at this; exact this)
        go_wp2_with fail
        go_roundw
        case rel => exact ⟨j + 1, L2, by omega, by go_num, HG5.out, HB5.out, HO5.out, HPN.out, HNL2.out⟩
        case measure => simp [intOf]; omega
       | true =>
        have HPN := Lib.hid (show (L2 ++ [(⟨some ⟨wr.heap.size + 1, 0, none⟩, 2, 2, [(⟨t, ⟨op, d, a, b⟩⟩ : Ed), (⟨t2, ⟨op2, d2, a2, b2⟩⟩ : Ed)]⟩ : Lo Ed)]).map Lo.x ++ (pairX p ts (⟨t, ⟨op, d, a, b⟩⟩ : Ed) ((M.drop (k + 1)).drop (j + 1)) ++ pairsL p ts (M.drop (k + 1))) = PL by
         have := HL2.out; rw [HPD.out] at this; simpa using this)
        go_wp2_with (at_builtin; refine wpList_appAt _ rfl (.tmp 45) (.tmp 47) 44 rfl w2.heap.size 58 Tryz.underlying44 info_sle rfl (by decide) (by decide) encLo encLo_len encLo_one _ L2 rfl (((Grow.refl w5).alloc _).owns HO5.out.row) _ (⟨some ⟨wr.heap.size + 1, 0, none⟩, 2, 2, [(⟨t, ⟨op, d, a, b⟩⟩ : Ed), (⟨t2, ⟨op2, d2, a2, b2⟩⟩ : Ed)]⟩ : Lo Ed) 1 rfl (newsG _ _ (by simp) (encLo (⟨some ⟨wr.heap.size + 1, 0, none⟩, 2, 2, [(⟨t, ⟨op, d, a, b⟩⟩ : Ed), (⟨t2, ⟨op2, d2, a2, b2⟩⟩ : Ed)]⟩ : Lo Ed)) _) HLE.out (by simp; omega) ?_; intro out2 w6 hown6 hgr6 hat6)
        have HG6 := Lib.hid (show Grow w2 w6 from grown_below HO5.out.row hgr6 (Nat.le_refl _) (by simp; omega) (HG5.out.alloc _))
        have HB6 := Lib.hid (kept_blk (((Grow.refl w5).alloc _).owns HO5.out.row) hgr6 (((Grow.refl w5).alloc _).blk HB5.out) (by decide))
        have HO6 := Lib.hid ((HO5.out.grow ((Grow.refl w5).alloc _)).app (t := ⟨some ⟨wr.heap.size + 1, 0, none⟩, 2, 2, [(⟨t, ⟨op, d, a, b⟩⟩ : Ed), (⟨t2, ⟨op2, d2, a2, b2⟩⟩ : Ed)]⟩) hgr6 hown6 hat6 (HLIT5.out.grow ((Grow.refl w5).alloc _)) fun b o s hb => by
         cases hb
         refine ⟨fun he => ?_, by simp; omega⟩
         have := HO2.out.lt he
         omega)
        clear hown6 hgr6 hat6
        go_roundw
        case rel => exact ⟨j + 1, _, by omega, by go_num, HG6.out, HB6.out, HO6.out, HPN.out, fun t ht => by
         rcases List.mem_append.1 ht with ht | ht
         ·exact HNL2.out t ht
         ·simp at ht; subst ht; exact fun a n c e => by cases e; have h1 := HG0.out.sz; have h2 := HG2.out.sz; dsimp only; omega⟩
        case measure => simp [intOf]; omega
      ·have hff : f = false := by rw [← hf]; unfold dblB; rw [decide_eq_false htt]; rfl
       subst hff
       have HPN := Lib.hid (show L2.map Lo.x ++ (pairX p ts (⟨t, ⟨op, d, a, b⟩⟩ : Ed) ((M.drop (k + 1)).drop (j + 1)) ++ pairsL p ts (M.drop (k + 1))) = PL by
        have := HL2.out; rw [HPD.out] at this; exact this)
       clear hf
       go_wp2_with fail
       go_roundw
       case rel => exact ⟨j + 1, L2, by omega, by go_num, HG2.out.trans HGXY.out, HGXY.out.blk HB2.out, HO2.out.grow HGXY.out, HPN.out, HNL2.out⟩
       case measure => simp [intOf]; omega
     ·have hjm2 : j = m := by omega
      have HNX := Lib.hid (show L2.map Lo.x ++ pairsL p ts (M.drop (k + 1)) = PL by
       have := HL2.out
       rw [List.drop_drop, List.drop_eq_nil_of_le (show M.length ≤ k + 1 + j by have := HMM.out; omega)] at this
       exact this)
      clear hjm2
      go_wp2_with fail
      go_roundw
      case rel => exact ⟨k + 1, L2, by omega, by go_num, HG2.out, HO2.out, HNX.out, HNL2.out⟩
      case measure => simp [intOf]; omega
  ·have hkn : k = M.length := by omega
   have hLM := HLX.out
   rw [hkn, List.drop_eq_nil_of_le (Nat.le_refl _)] at hLM
   have HLM := Lib.hid (show L.map Lo.x = PL by simpa [pairsL] using hLM)
   have HLS := Lib.hid (lists_of HOW.out.at_ HOW.out.ins)
   obtain ⟨oa, oc, rfl, jk5⟩ := HOW.out.at_
   have hlt3 : ¬ (k : Int) < (M.length : Int) := by omega
   clear hLM hkn jk5
   go_wp2_with fail
   refine smallest_any p (L.map toLst) _ _ _ (HP.out.grow HG.out) HLS.out _ ?_ ?_
   ·intro h0 w5 hg5
    have hE0 : PL = [] := by
     rw [← HLM.out]
     have := List.map_eq_nil_iff.1 h0
     rw [this]; rfl
    have HF := Lib.hid (HR0.out hE0 w5 (HG.out.trans hg5))
    clear hg5 h0 hE0
    go_wp2_with fail
    exact HF.out
   ·intro w5 j u hg5 hu hfm
    have hmap : ((L.map toLst).map fun t => sizeE p t.x) = PL.map (sizeE p) := by
     rw [← HLM.out, List.map_map, List.map_map]; rfl
    have hEu : PL[j]? = some u.x := by
     rw [← HLM.out, List.getElem?_map]
     rw [List.getElem?_map] at hu
     cases hj : L[j]? with
     | none => rw [hj] at hu; cases hu
     | some t => rw [hj] at hu; cases hu; rfl
    rw [hmap] at hfm
    have hI := HLS.out.ins u (List.mem_of_getElem? hu)
    have hNu : NewS w.heap.size u.v := by
     obtain ⟨t, ht, rfl⟩ := List.mem_map.1 (List.mem_of_getElem? hu)
     exact HNL.out t ht
    have HF := Lib.hid (HR1.out w5 u.v j u.x (HG.out.trans hg5) hEu hfm (hI.grow hg5) hNu)
    obtain ⟨ua, un, uc, ux⟩ := u
    dsimp only [Lst.v] at HF ⊢
    clear hg5 hu hfm hmap hI hEu hNu
    go_wp2_with fail
    exact HF.out
end Go.Proofs.YtmeejlgnhfkeaaaGreatDoor

namespace Go.Proofs.YtmeejlgnhfkeaaaGreatDoor
open Go.RowKit
def RepP (p : List Ln) (ts : List Tst) (x : List Ed) (n : Int) (ok : Bool) : Prop :=
 (sgtE p ts 0 ≠ 0 ∧ x = [] ∧ n = 0 ∧ ok = false) ∨
 (sgtE p ts 0 = 0 ∧ ((∃ k : Nat, k < 3 ∧ n = k ∧ ok = true ∧ (∀ k' : Nat, k' < k → SnglP p ts k' ⟨0, ⟨0, 0, 0, 0⟩⟩ false) ∧ ∃ e, x = [e] ∧ SnglP p ts k e true) ∨
  ((∀ k' : Nat, k' < 3 → SnglP p ts k' ⟨0, ⟨0, 0, 0, 0⟩⟩ false) ∧ DblP p ts x ok ∧ n = if ok then 3 else 0)))
theorem RepP.uniq {p : List Ln} {ts : List Tst} {x x' : List Ed} {n n' : Int} {ok ok' : Bool} (h : RepP p ts x n ok) (h' : RepP p ts x' n' ok') : x = x' ∧ n = n' ∧ ok = ok' := by
 rcases h with ⟨h, rfl, rfl, rfl⟩ | ⟨h, h1⟩ <;> rcases h' with ⟨g, rfl, rfl, rfl⟩ | ⟨g, g1⟩
 ·exact ⟨rfl, rfl, rfl⟩
 ·exact absurd g h
 ·exact absurd h g
 ·rcases h1 with ⟨k, hk, rfl, rfl, hn, e, rfl, hs⟩ | ⟨hn, hd, rfl⟩ <;> rcases g1 with ⟨k', hk', rfl, rfl, hn', e', rfl, hs'⟩ | ⟨hn', hd', rfl⟩
  ·have hkk : k = k' := by
    by_cases h1 : k < k'
    ·have := (hn' k h1).uniq hs; cases this.2
    ·by_cases h2 : k' < k
     ·have := (hn k' h2).uniq hs'; cases this.2
     ·omega
   subst hkk
   obtain ⟨rfl, _⟩ := hs.uniq hs'
   exact ⟨rfl, rfl, rfl⟩
  ·have := (hn' k hk).uniq hs; cases this.2
  ·have := (hn k' hk').uniq hs'; cases this.2
  ·obtain ⟨rfl, rfl⟩ := hd.uniq hd'
   exact ⟨rfl, rfl, rfl⟩
theorem sgt_kind {p : List Ln} {ts : List Tst} {k : Nat} (hk : k < 3) : sgtE p ts k = sgtE p ts 0 := by
 unfold sgtE
 rw [inB_true.2 ⟨by omega, by omega⟩, show inB 0 0 2 = true from rfl]
theorem num0_any (w : World) (R : Ending → World → Prop) (hR : ∀ w', Grow w w' → R (.returned (.int .i64 0)) w') : Calls Tryz.prog 366 #[.agg #[]] w R := by
 have HR := Lib.hid hR
 clear hR
 go_enter Tryz.func366, Tryz.ntmps366
 go_wp2_with fail
 exact HR.out _ ((Grow.refl w).alloc _)
theorem num1_any (w : World) (R : Ending → World → Prop) (hR : ∀ w', Grow w w' → R (.returned (.int .i64 1)) w') : Calls Tryz.prog 367 #[.agg #[]] w R := by
 have HR := Lib.hid hR
 clear hR
 go_enter Tryz.func367, Tryz.ntmps367
 go_wp2_with fail
 exact HR.out _ ((Grow.refl w).alloc _)
theorem num2_any (w : World) (R : Ending → World → Prop) (hR : ∀ w', Grow w w' → R (.returned (.int .i64 2)) w') : Calls Tryz.prog 368 #[.agg #[]] w R := by
 have HR := Lib.hid hR
 clear hR
 go_enter Tryz.func368, Tryz.ntmps368
 go_wp2_with fail
 exact HR.out _ ((Grow.refl w).alloc _)
set_option maxRecDepth 100000 in
set_option maxHeartbeats 16000000 in
theorem Repair_any (p : List Ln) (ts : List Tst) (pv tv : Value) (w : World) (hp : LinesAt w pv p) (ht : TestsAt w tv ts) (R : Ending → World → Prop)
  (hR : ∀ w' v x n ok, Grow w w' → EditsAt w' v x → NewS w.heap.size v → RepP p ts x n ok → R (.returned (.tuple #[v, .int .i64 n, .bool ok, .int .i64 (sgtE p ts 0)])) w') :
  Calls Tryz.prog 169 #[pv, tv] w R := by
 have HP := Lib.hid hp
 have HT := Lib.hid ht
 have HR := Lib.hid hR
 obtain ⟨e, he⟩ : ∃ e, sgtE p ts 0 = e := ⟨_, rfl⟩
 have hok := fun h : e = 0 => sgtE_ok.1 (he.trans h)
 rw [he] at HR
 have HE := Lib.hid he
 obtain ⟨pa, pc, rfl, jk1⟩ := hp
 obtain ⟨⟨ta, tc, rfl, jk2⟩, jk3⟩ := ht
 clear hR he jk1 jk2 jk3
 by_cases z1 : e = 0
 rotate_left
 ·have HS := Lib.hid (show RepP p ts [] 0 false from .inl ⟨by rw [HE.out]; exact z1, rfl, rfl, rfl⟩)
  have t1 : (e != 0) = true := by simpa using z1
  clear hok z1
  go_enter Tryz.func169, Tryz.ntmps169
  go_wp2_with fail
  refine kinded_any p ts 0 _ _ _ HP.out HT.out _ ?_
  intro w1 hg1
  rw [HE.out]
  have HF := Lib.hid (HR.out w1 (.slice none 0 0) [] 0 false hg1 (SlcAt.nil _ _ _) (NewS.nil _ _ _) HS.out)
  clear hg1
  go_wp2_with fail
  exact bodyPost_ret (by simp [results, Tryz.results169, go_sem]) rfl HF.out
 obtain ⟨⟨hv, hvt⟩, _, _⟩ := hok z1
 subst z1
 have hp8 := (valP_ok.1 hv).1
 have HV := Lib.hid hv
 have HVT := Lib.hid hvt
 have HCL := Lib.hid (fun (k : Nat) (h : k < 3) => candAt_len hv (kind := k) (by omega) (by omega))
 clear hok hv hvt
 go_enter Tryz.func169, Tryz.ntmps169
 go_wp2_with fail
 refine kinded_any p ts 0 _ _ _ HP.out HT.out _ ?_
 intro w1 hg1
 rw [HE.out]
 have HG1 := Lib.hid hg1
 clear hg1
 go_wp2_with fail
 refine sources_any _ _ ?_
 have HBS := Lib.hid (heap_alloc_new w1 (.cells #[.iface 285 (.agg #[]), .iface 286 (.agg #[]), .iface 287 (.agg #[])] 261))
 have HG2 := Lib.hid (HG1.out.alloc (.cells #[.iface 285 (.agg #[]), .iface 286 (.agg #[]), .iface 287 (.agg #[])] 261))
 obtain ⟨bs, hbs⟩ : ∃ z, w1.heap.size = z := ⟨_, rfl⟩
 rw [hbs] at HBS ⊢
 generalize w1.alloc (.cells #[.iface 285 (.agg #[]), .iface 286 (.agg #[]), .iface 287 (.agg #[])] 261) = W2 at HBS HG2 ⊢
 clear hbs
 go_wp2_with fail
 go_loopw [23] (fun i wr => ∃ k : Nat, k ≤ 3 ∧ i = .int .i64 k ∧ Grow W2 wr ∧ ∀ k' : Nat, k' < k → SnglP p ts k' ⟨0, ⟨0, 0, 0, 0⟩⟩ false) (fun i _ => 3 - (intOf i).toNat)
 case atStart => exact ⟨0, Nat.zero_le _, rfl, Grow.refl _, fun k' h => by omega⟩
 case round =>
  obtain ⟨k, hk, rfl, hg, hno⟩ := hrel
  have HG := Lib.hid (HG2.out.trans hg)
  have HGX := Lib.hid hg
  have HNO := Lib.hid hno
  obtain ⟨c0, c1, c2⟩ := box3 (hg.blk HBS.out)
  have hzb := lt_of_block (hg.blk HBS.out)
  clear hg hno
  have hk4 : k = 0 ∨ k = 1 ∨ k = 2 ∨ k = 3 := by omega
  rcases hk4 with rfl | rfl | rfl | rfl
  ·skip
   go_wp2_with fail
   refine single_any p ts (.iface 285 (.agg #[])) (candAt p 0) _ _ _ (HP.out.grow HG.out) (HT.out.grow HG.out) hp8 (HCL.out 0 (by decide)) (fun n W hn hW R' hR' => cand0_at p _ n W HV.out hn hW R' hR') _ ?_ ?_
   ·intro hE w3 hg3
    have hs : SnglP p ts ((0 : Nat) : Int) ⟨0, ⟨0, 0, 0, 0⟩⟩ false := .inl ⟨rfl, rfl, .inr hE⟩
    have HNO2 := Lib.hid (show ∀ k' : Nat, k' < 0 + 1 → SnglP p ts k' ⟨0, ⟨0, 0, 0, 0⟩⟩ false from fun k' h => by
     by_cases h2 : k' < 0
     ·exact HNO.out k' h2
     ·have : k' = 0 := by omega
      subst this; exact hs)
    have HG3 := Lib.hid (HGX.out.trans hg3)
    clear hg3 hE hs
    go_wp2_with fail
    go_roundw
    case rel => exact ⟨1, by omega, by go_num, HG3.out, HNO2.out⟩
    case measure => simp [intOf]
   ·intro w3 v3 j ed hg3 hj hfm hv3 hn3
    have hs : SnglP p ts ((0 : Nat) : Int) ed true := .inr ⟨rfl, (sgt_kind (by decide)).trans HE.out, j, hj, hfm⟩
    have HFx := Lib.hid (fun w4 (hg4 : Grow w3 w4) => HR.out w4 v3 [ed] ((0 : Nat) : Int) true (HG.out.trans (hg3.trans hg4)) (hv3.grow hg4) (hn3.mono HG.out.sz) (.inr ⟨HE.out, .inl ⟨0, by decide, rfl, rfl, HNO.out, ed, rfl, hs⟩⟩))
    clear hg3 hj hfm hv3 hn3 hs
    have hm : ∀ w : World, (method 498 285 (.agg #[]) "tinker/seek.number").run Tryz.prog w = .ok (366, .agg #[]) w := fun _ => by kernel_rfl
    go_wp2_with fail
    refine num0_any _ _ ?_
    intro w4 hg4
    have HF4 := Lib.hid (HFx.out w4 hg4)
    go_wp2_with fail
    exact bodyPost_ret (by simp [results, Tryz.results169, go_sem]) rfl HF4.out
  ·skip
   go_wp2_with fail
   refine single_any p ts (.iface 286 (.agg #[])) (candAt p 1) _ _ _ (HP.out.grow HG.out) (HT.out.grow HG.out) hp8 (HCL.out 1 (by decide)) (fun n W hn hW R' hR' => cand1_at p _ n W HV.out hn hW R' hR') _ ?_ ?_
   ·intro hE w3 hg3
    have hs : SnglP p ts ((1 : Nat) : Int) ⟨0, ⟨0, 0, 0, 0⟩⟩ false := .inl ⟨rfl, rfl, .inr hE⟩
    have HNO2 := Lib.hid (show ∀ k' : Nat, k' < 1 + 1 → SnglP p ts k' ⟨0, ⟨0, 0, 0, 0⟩⟩ false from fun k' h => by
     by_cases h2 : k' < 1
     ·exact HNO.out k' h2
     ·have : k' = 1 := by omega
      subst this; exact hs)
    have HG3 := Lib.hid (HGX.out.trans hg3)
    clear hg3 hE hs
    go_wp2_with fail
    go_roundw
    case rel => exact ⟨2, by omega, by go_num, HG3.out, HNO2.out⟩
    case measure => simp [intOf]
   ·intro w3 v3 j ed hg3 hj hfm hv3 hn3
    have hs : SnglP p ts ((1 : Nat) : Int) ed true := .inr ⟨rfl, (sgt_kind (by decide)).trans HE.out, j, hj, hfm⟩
    have HFx := Lib.hid (fun w4 (hg4 : Grow w3 w4) => HR.out w4 v3 [ed] ((1 : Nat) : Int) true (HG.out.trans (hg3.trans hg4)) (hv3.grow hg4) (hn3.mono HG.out.sz) (.inr ⟨HE.out, .inl ⟨1, by decide, rfl, rfl, HNO.out, ed, rfl, hs⟩⟩))
    clear hg3 hj hfm hv3 hn3 hs
    have hm : ∀ w : World, (method 498 286 (.agg #[]) "tinker/seek.number").run Tryz.prog w = .ok (367, .agg #[]) w := fun _ => by kernel_rfl
    go_wp2_with fail
    refine num1_any _ _ ?_
    intro w4 hg4
    have HF4 := Lib.hid (HFx.out w4 hg4)
    go_wp2_with fail
    exact bodyPost_ret (by simp [results, Tryz.results169, go_sem]) rfl HF4.out
  ·skip
   go_wp2_with fail
   refine single_any p ts (.iface 287 (.agg #[])) (candAt p 2) _ _ _ (HP.out.grow HG.out) (HT.out.grow HG.out) hp8 (HCL.out 2 (by decide)) (fun n W hn hW R' hR' => cand2_at p _ n W HV.out hn hW R' hR') _ ?_ ?_
   ·intro hE w3 hg3
    have hs : SnglP p ts ((2 : Nat) : Int) ⟨0, ⟨0, 0, 0, 0⟩⟩ false := .inl ⟨rfl, rfl, .inr hE⟩
    have HNO2 := Lib.hid (show ∀ k' : Nat, k' < 2 + 1 → SnglP p ts k' ⟨0, ⟨0, 0, 0, 0⟩⟩ false from fun k' h => by
     by_cases h2 : k' < 2
     ·exact HNO.out k' h2
     ·have : k' = 2 := by omega
      subst this; exact hs)
    have HG3 := Lib.hid (HGX.out.trans hg3)
    clear hg3 hE hs
    go_wp2_with fail
    go_roundw
    case rel => exact ⟨3, by omega, by go_num, HG3.out, HNO2.out⟩
    case measure => simp [intOf]
   ·intro w3 v3 j ed hg3 hj hfm hv3 hn3
    have hs : SnglP p ts ((2 : Nat) : Int) ed true := .inr ⟨rfl, (sgt_kind (by decide)).trans HE.out, j, hj, hfm⟩
    have HFx := Lib.hid (fun w4 (hg4 : Grow w3 w4) => HR.out w4 v3 [ed] ((2 : Nat) : Int) true (HG.out.trans (hg3.trans hg4)) (hv3.grow hg4) (hn3.mono HG.out.sz) (.inr ⟨HE.out, .inl ⟨2, by decide, rfl, rfl, HNO.out, ed, rfl, hs⟩⟩))
    clear hg3 hj hfm hv3 hn3 hs
    have hm : ∀ w : World, (method 498 287 (.agg #[]) "tinker/seek.number").run Tryz.prog w = .ok (368, .agg #[]) w := fun _ => by kernel_rfl
    go_wp2_with fail
    refine num2_any _ _ ?_
    intro w4 hg4
    have HF4 := Lib.hid (HFx.out w4 hg4)
    go_wp2_with fail
    exact bodyPost_ret (by simp [results, Tryz.results169, go_sem]) rfl HF4.out
  ·skip
   go_wp2_with fail
   refine double_any p ts _ _ _ (HP.out.grow HG.out) (HT.out.grow HG.out) HV.out _ ?_ ?_
   ·intro h0 w2 hg2
    have HF := Lib.hid (HR.out w2 (.slice none 0 0) [] 0 false (HG.out.trans hg2) (SlcAt.nil _ _ _) (NewS.nil _ _ _) (.inr ⟨HE.out, .inr ⟨HNO.out, .inl ⟨rfl, rfl, .inr h0⟩, rfl⟩⟩))
    clear hg2 h0
    go_wp2_with fail
    exact bodyPost_ret (by simp [results, Tryz.results169, go_sem]) rfl HF.out
   ·intro w2 v j x hg2 hj hfm hv2 hn2
    have HF := Lib.hid (HR.out w2 v x 3 true (HG.out.trans hg2) hv2 (hn2.mono HG.out.sz) (.inr ⟨HE.out, .inr ⟨HNO.out, .inr ⟨rfl, HE.out, j, hj, hfm⟩, rfl⟩⟩))
    clear hg2 hj hfm hv2 hn2
    go_wp2_with fail
    exact bodyPost_ret (by simp [results, Tryz.results169, go_sem]) rfl HF.out
end Go.Proofs.YtmeejlgnhfkeaaaGreatDoor

namespace Go.Proofs.YtmeejlgnhfkeaaaGreatDoor
open Go.RowKit
set_option maxHeartbeats 2000000 in
theorem Do_any (p : List Ln) (x : List Ed) (pv xv : Value) (w : World) (hp : LinesAt w pv p) (hx : EditsAt w xv x) (R : Ending → World → Prop)
  (hR : ∀ w' v, Grow w w' → NewS w.heap.size v → LinesAt w' v (if chkX p x [] = 0 then doM p x else []) → R (.returned (.tuple #[v, .int .i64 (chkX p x [])])) w') :
  Calls Tryz.prog 60 #[pv, xv] w R := by
 have HP := Lib.hid hp
 have HX := Lib.hid hx
 have HR := Lib.hid hR
 obtain ⟨e, he⟩ : ∃ e, chkX p x [] = e := ⟨_, rfl⟩
 have hok := fun h : e = 0 => chkX_ok.1 (he.trans h)
 rw [he] at HR
 have HE := Lib.hid he
 obtain ⟨pa, pc, rfl, p1, p2, jk1⟩ := hp
 obtain ⟨xa, xc, rfl, x1, x2, jk2⟩ := hx
 clear hR he jk1 jk2
 by_cases h0 : e = 0
 rotate_left
 ·rw [if_neg h0] at HR
  have t1 : (e != 0) = true := by simpa using h0
  clear hok h0
  go_enter Tryz.func60, Tryz.ntmps60
  go_wp2_with fail
  refine checked_any p x [] _ _ _ _ HP.out HX.out (TestsAt.nil _) _ ?_
  intro w1 hg1
  rw [HE.out]
  have HF := Lib.hid (HR.out w1 (.slice none 0 0) hg1 (NewS.nil _ _ _) (SlcAt.nil _ _ _))
  clear hg1
  go_wp2_with fail
  exact HF.out
 obtain ⟨hv, hvx, _, hoff⟩ := hok h0
 subst h0
 rw [if_pos rfl] at HR
 have hp8 := (valP_ok.1 hv).1
 have hx4 := (valX_ok.1 hvx).1
 have HOK := Lib.hid (valX_ok.1 hvx).2
 have HOFF := Lib.hid hoff
 clear hok hv hvx hoff
 go_enter Tryz.func60, Tryz.ntmps60
 go_wp2_with fail
 refine checked_any p x [] _ _ _ _ HP.out HX.out (TestsAt.nil _) _ ?_
 intro w1 hg1
 rw [HE.out]
 have HG1 := Lib.hid hg1
 clear hg1
 go_wp2_with fail
 refine do_any p x _ _ _ (HP.out.grow HG1.out) (HX.out.grow HG1.out) hp8 HOK.out hx4 HOFF.out _ ?_
 intro w2 v2 hg2 hn2 hv2
 have HF := Lib.hid (HR.out w2 v2 (HG1.out.trans hg2) (hn2.mono HG1.out.sz) hv2)
 clear hg2 hn2 hv2
 go_wp2_with fail
 exact HF.out
end Go.Proofs.YtmeejlgnhfkeaaaGreatDoor
