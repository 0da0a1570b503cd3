/-
The walk of double: the smallest double repair.
The walks of the document's mutants and Mutants.
The walk of the document's double: the smallest double repair.
The walks of Double and of the document's Double.
-/
import Derived.Test.YtbccbokjecdaaaaGreatD18
import Derived.Test.YtbccbokjecdaaaaGreatD20
import Derived.Test.YtbccbokjecdaaaaGreatD21
import Derived.Test.YtbccbokjecdaaaaGreatD10
namespace Go.Proofs.YtbccbokjecdaaaaGreat
open Go.RowKit

/-- A literal of edits in a block of its own. -/
theorem edits_lits (w : World) (xs : List Ed) (T : TypeId) (hl : xs.length ≤ 1000) : EditsAt (w.alloc (.cells (xs.flatMap encE).toArray T)) (.slice (some ⟨w.heap.size, 0, none⟩) xs.length xs.length) xs := by
  refine ⟨_, xs.length, rfl, Nat.le_refl _, by omega, .inr ⟨w.heap.size, 0, rfl, by rw [World.size_alloc]; omega, ?_⟩⟩
  intro j x hj i u hu
  have hi : i < 5 := by have := (List.getElem?_eq_some_iff.1 hu).1; rw [encE_len] at this; exact this
  rw [Nat.zero_add, World.cell?_alloc_new]
  have := flatMap_getElem? encE_len xs j x hj i hi
  simpa [this] using hu
/-- A list of lists, read in the words of the smallest one. -/
def toLst (t : Lo Ed) : Lst := ⟨t.a, t.n, t.c, t.x⟩
theorem lists_of {w : World} {v : Value} {L : List (Lo Ed)} (h : SlcAt 1 encLo w v L) (hi : ∀ t ∈ L, EditsAt w t.v t.x) : ListsAt w v (L.map toLst) := by
  refine ⟨?_, fun t ht => by obtain ⟨u, hu, rfl⟩ := List.mem_map.1 ht; exact hi u hu⟩
  obtain ⟨a, c, rfl, h1, h2, h3⟩ := h
  refine ⟨a, c, by rw [List.length_map], by rw [List.length_map]; exact h1, h2, ?_⟩
  rcases h3 with ⟨rfl, h3⟩ | ⟨b, o, rfl, hb, h3⟩
  · exact .inl ⟨rfl, h3⟩
  · refine .inr ⟨b, o, rfl, hb, fun j x hx i u hu => ?_⟩
    rw [List.getElem?_map] at hx
    cases hj : L[j]? with
    | none => rw [hj] at hx; cases hx
    | some t => rw [hj] at hx; cases hx; exact h3 j t hj i u hu

/-- A block of another type stays as it is where a list grows. -/
theorem kept_blk {w w' : World} {base n k : Nat} {T T' : TypeId} {v : Value} {ys : List Value} {b : Nat} {cs : Array Value} {fz : Nat × Nat} (ho : w.ownsRow base T k v n ys) (hg : w.grownBy w' v.ownBlock) (hb : w.heap[b]? = some (.cells cs T' fz)) (hne : T' ≠ T) : w'.heap[b]? = some (.cells cs T' fz) := by
  have hn : some b ≠ v.ownBlock := by
    intro he
    rcases ho.2 with ⟨hv, _⟩ | ⟨g, cap, cur, hv, _, hh, _⟩
    · subst hv
      simp [Value.ownBlock] at he
    · subst hv
      have hbg : b = g := by simpa [Value.ownBlock] using he
      subst hbg
      rw [hb] at hh
      injection hh with hh
      injection hh with _ h2 _
      exact hne h2
  rw [hg.block b (lt_of_block hb) hn]
  exact hb
set_option maxRecDepth 100000 in
set_option maxHeartbeats 16000000 in
theorem double_any (p : List Ln) (ts : List Tst) (pv tv : Value) (w : World) (hp : LinesAt w pv p) (ht : TestsAt w tv ts) (hval : valP p = 0) (R : Ending → World → Prop)
    (hR0 : pairsL p ts (mutM p p.length) = [] → ∀ w', Grow w w' → R (.returned (.tuple #[.slice none 0 0, .bool false])) w')
    (hR1 : ∀ w' v (j : Nat) x, Grow w w' → (pairsL p ts (mutM p p.length))[j]? = some x → FirstMin ((pairsL p ts (mutM p p.length)).map (sizeE p)) j (sizeE p x) → EditsAt w' v x → R (.returned (.tuple #[v, .bool true])) w') :
    Calls Tryz.prog 86 #[pv, tv] w R := by
  have HP := Lib.hid hp
  have HT := Lib.hid ht
  have hlen := mutM_short p p.length
  have hp8 := (valP_ok.1 hval).1
  have HV := Lib.hid hval
  obtain ⟨M, hM⟩ : ∃ M, mutM p p.length = M := ⟨_, rfl⟩
  rw [hM] at hR0 hR1 hlen
  have HM := Lib.hid hM
  have hM8 : M.length ≤ 160 := by omega
  have hPl := pairsL_len p ts M 160 hM8
  obtain ⟨PL, hPL⟩ : ∃ L, pairsL p ts M = L := ⟨_, rfl⟩
  rw [hPL] at hR0 hR1 hPl
  have hPl2 : PL.length ≤ 25600 := by
    have := Nat.mul_le_mul_right 160 hM8
    omega
  have HPL := Lib.hid hPL
  have HR0 := Lib.hid hR0
  have HR1 := Lib.hid hR1
  obtain ⟨pa, pc, rfl, jk1⟩ := hp
  obtain ⟨⟨ta, tc, rfl, jk2⟩, jk3⟩ := ht
  clear hR0 hR1 hval hM hPL hPl hlen jk1 jk2 jk3
  go_enter Tryz.func86, Tryz.ntmps86
  go_wp2_with fail
  refine mutants_any p _ _ HP.out HV.out _ ?_
  intro w2 v2 hg2 hv2
  rw [HM.out] at hv2
  have HX2 := Lib.hid hv2.edits
  obtain ⟨a2, c2, rfl, r1, r2, jk4⟩ := hv2.edits
  have HG0 := Lib.hid hg2
  clear hg2 jk4 hv2
  go_wp2_with fail
  go_loopw [6, 17] (fun out i wr => ∃ (k : Nat) (L : List (Lo Ed)), k ≤ M.length ∧ i = .int .i64 k ∧ Grow w2 wr ∧ LoOwn w2.heap.size 31 5 encE wr out L ∧ L.map Lo.x ++ pairsL p ts (M.drop k) = PL) (fun _ i _ => M.length - (intOf i).toNat)
  case atStart => exact ⟨0, [], Nat.zero_le _, rfl, Grow.refl _, LoOwn.nil _ _ _ _ _, HPL.out⟩
  case round =>
    obtain ⟨k, L, hk, rfl, hg, how, hLx⟩ := hrel
    have HGX := Lib.hid hg
    have HG := Lib.hid (HG0.out.trans hg)
    have HOW := Lib.hid how
    have HLX := Lib.hid hLx
    have hzw := hg.sz
    clear hg how hLx
    by_cases hlt : k < M.length
    · obtain ⟨⟨t, op, d, a, b⟩, hx⟩ : ∃ x, M[k]? = some x := ⟨_, List.getElem?_eq_getElem hlt⟩
      obtain ⟨gb, o, rfl, hb, e0, e1, e2, e3, e4⟩ := edits_at (HX2.out.grow HGX.out) hx
      have hlt2 : (k : Int) < (M.length : Int) := by omega
      have HDR := Lib.hid (pairsL_drop (p := p) (ts := ts) hx)
      have hbx := heap_alloc_new wr (.cells #[.int .i64 t, .int .i64 op, .int .i64 d, .int .i64 a, .int .i64 b] 27)
      have hgx := (Grow.refl wr).alloc (.cells #[.int .i64 t, .int .i64 op, .int .i64 d, .int .i64 a, .int .i64 b] 27)
      have HBX := Lib.hid hbx
      have HGB := Lib.hid hgx
      clear hx hbx hgx
      obtain ⟨m, hm⟩ : ∃ m, M.length - (k + 1) = m := ⟨_, rfl⟩
      have HMM := Lib.hid (show M.length = k + 1 + m by omega)
      have hPQ : L.map Lo.x ++ (pairX p ts (⟨t, ⟨op, d, a, b⟩⟩ : Ed) (M.drop (k + 1)) ++ pairsL p ts (M.drop (k + 1))) = PL := by rw [← HDR.out]; exact HLX.out
      have HPQ := Lib.hid hPQ
      have HGO := Lib.hid (HOW.out.grow HGB.out)
      clear hPQ
      by_cases hcc : c2 = k + 1
      · have hm0 : m = 0 := by omega
        have HNX := Lib.hid (show L.map Lo.x ++ pairsL p ts (M.drop (k + 1)) = PL by
          have := HPQ.out
          rw [List.drop_eq_nil_of_le (show M.length ≤ k + 1 by omega)] at this ⊢
          exact this)
        go_wp2_with fail
        try rw [hm0]
        generalize wr.alloc (.cells #[.int .i64 t, .int .i64 op, .int .i64 d, .int .i64 a, .int .i64 b] 27) = W at HGB HGO ⊢
        go_loopw [6, 27] (fun out i wr2 => i = .int .i64 0 ∧ wr2 = W ∧ out = u6) (fun _ _ _ => 0)
        case atStart => exact ⟨rfl, rfl, rfl⟩
        case round =>
          obtain ⟨rfl, rfl, rfl⟩ := hrel
          go_wp2_with fail
          go_roundw
          case rel => exact ⟨k + 1, L, by omega, by go_num, HGX.out.trans HGB.out, HGO.out, HNX.out⟩
          case measure => simp [intOf]; omega
      · skip
        go_wp2_with fail
        skip
        have hsW : (wr.alloc (.cells #[.int .i64 t, .int .i64 op, .int .i64 d, .int .i64 a, .int .i64 b] 27)).heap.size = wr.heap.size + 1 := by simp
        have HGW := Lib.hid (HGX.out.trans HGB.out)
        generalize wr.alloc (.cells #[.int .i64 t, .int .i64 op, .int .i64 d, .int .i64 a, .int .i64 b] 27) = W at HBX HGB HGO HGW hsW ⊢
        obtain ⟨bx, hbx⟩ : ∃ z, wr.heap.size = z := ⟨_, rfl⟩
        rw [hbx] at HBX ⊢
        obtain ⟨wo, hwo⟩ : ∃ z : World, z = wr := ⟨_, rfl⟩
        clear hwo
        go_loopw [6, 27] (fun out i wr2 => ∃ (j : Nat) (L2 : List (Lo Ed)), j ≤ m ∧ i = .int .i64 j ∧ Grow w2 wr2 ∧ wr2.heap[bx]? = some (.cells #[.int .i64 t, .int .i64 op, .int .i64 d, .int .i64 a, .int .i64 b] 27 (0, 0)) ∧ LoOwn w2.heap.size 31 5 encE wr2 out L2 ∧ L2.map Lo.x ++ (pairX p ts (⟨t, ⟨op, d, a, b⟩⟩ : Ed) ((M.drop (k + 1)).drop j) ++ pairsL p ts (M.drop (k + 1))) = PL) (fun _ i _ => m - (intOf i).toNat)
        case atStart => exact ⟨0, L, Nat.zero_le _, rfl, HGW.out, HBX.out, HGO.out, HPQ.out⟩
        case round =>
          obtain ⟨j, L2, hj, rfl, hg2, hb2, how2, hLx2⟩ := hrel
          have HG2 := Lib.hid hg2
          have HB2 := Lib.hid hb2
          have HO2 := Lib.hid how2
          have HL2 := Lib.hid hLx2
          have hzw2 := hg2.sz
          have hL2 : L2.length ≤ 25600 := by
            have := congrArg List.length hLx2
            rw [List.length_append, List.length_map] at this
            omega
          clear hg2 hb2 how2 hLx2
          by_cases hjm : j < m
          · have hjm2 : (j : Int) < (m : Int) := by omega
            obtain ⟨⟨t2, op2, d2, a2, b2⟩, hy⟩ : ∃ y, M[k + 1 + j]? = some y := ⟨_, List.getElem?_eq_getElem (by have := HMM.out; omega)⟩
            obtain ⟨gb', o', e', hgb', f0, f1, f2, f3, f4⟩ := edits_at (HX2.out.grow HG2.out) hy
            cases e'
            rw [show o + (k + 1 + j) * 5 = o + (k + 1) * 5 + j * 5 by omega] at f0 f1 f2 f3 f4
            have HPD := Lib.hid (pairX_drop (p := p) (ts := ts) (x := (⟨t, ⟨op, d, a, b⟩⟩ : Ed)) (ys := M.drop (k + 1)) (j := j) (y := (⟨t2, ⟨op2, d2, a2, b2⟩⟩ : Ed)) (by rw [List.getElem?_drop]; exact hy))
            obtain ⟨c0, c1, c2', c3, c4⟩ := box5 HB2.out
            have hzb := lt_of_block HB2.out
            obtain ⟨f, hf⟩ : ∃ f, dblB p ts (⟨t, ⟨op, d, a, b⟩⟩ : Ed) (⟨t2, ⟨op2, d2, a2, b2⟩⟩ : Ed) = f := ⟨_, rfl⟩
            rw [hf] at HPD
            have hgy := (Grow.refl wr).alloc (.cells #[.int .i64 t2, .int .i64 op2, .int .i64 d2, .int .i64 a2, .int .i64 b2] 27)
            have hgxy := hgy.alloc (.cells #[.int .i64 t, .int .i64 op, .int .i64 d, .int .i64 a, .int .i64 b, .int .i64 t2, .int .i64 op2, .int .i64 d2, .int .i64 a2, .int .i64 b2] 27)
            have HGXY := Lib.hid hgxy
            have HLE := Lib.hid (show L2.length < 100000000000 by omega)
            clear hy hgy hgxy
            by_cases htt : t < t2
            · have hlit := edits_lits (wr.alloc (.cells #[.int .i64 t2, .int .i64 op2, .int .i64 d2, .int .i64 a2, .int .i64 b2] 27)) [(⟨t, ⟨op, d, a, b⟩⟩ : Ed), (⟨t2, ⟨op2, d2, a2, b2⟩⟩ : Ed)] 27 (by simp)
              rw [World.size_alloc] at hlit
              have HLIT := Lib.hid (show EditsAt ((wr.alloc (.cells #[.int .i64 t2, .int .i64 op2, .int .i64 d2, .int .i64 a2, .int .i64 b2] 27)).alloc (.cells #[.int .i64 t, .int .i64 op, .int .i64 d, .int .i64 a, .int .i64 b, .int .i64 t2, .int .i64 op2, .int .i64 d2, .int .i64 a2, .int .i64 b2] 27)) (.slice (some ⟨wr.heap.size + 1, 0, none⟩) 2 2) [(⟨t, ⟨op, d, a, b⟩⟩ : Ed), (⟨t2, ⟨op2, d2, a2, b2⟩⟩ : Ed)] from hlit)
              have hgf : (decide (chkX p [(⟨t, ⟨op, d, a, b⟩⟩ : Ed), (⟨t2, ⟨op2, d2, a2, b2⟩⟩ : Ed)] ts = 0) && goodM p [(⟨t, ⟨op, d, a, b⟩⟩ : Ed), (⟨t2, ⟨op2, d2, a2, b2⟩⟩ : Ed)] ts) = f := by
                rw [← hf]; unfold dblB; rw [decide_eq_true htt]; rfl
              have HGF := Lib.hid hgf
              clear hlit hgf hf
              go_wp2_with fail
              refine good_any p [(⟨t, ⟨op, d, a, b⟩⟩ : Ed), (⟨t2, ⟨op2, d2, a2, b2⟩⟩ : Ed)] ts _ _ _ _ (HP.out.grow (HG0.out.trans (HG2.out.trans HGXY.out))) HLIT.out (HT.out.grow (HG0.out.trans (HG2.out.trans HGXY.out))) _ ?_
              intro w5 hg5
              rw [HGF.out]
              have HG5 := Lib.hid (HG2.out.trans (HGXY.out.trans hg5))
              have HB5 := Lib.hid ((HGXY.out.trans hg5).blk HB2.out)
              have HO5 := Lib.hid (HO2.out.grow (HGXY.out.trans hg5))
              have HLIT5 := Lib.hid (HLIT.out.grow hg5)
              have hz5 := (HGXY.out.trans hg5).sz
              have hs5 : wr.heap.size + 2 ≤ w5.heap.size := by have := hg5.sz; simp at this; omega
              clear hg5 c0 c1 c2' c3 c4 f0 f1 f2 f3 f4
              cases f with
              | false =>
                have HPN := Lib.hid (show L2.map Lo.x ++ (pairX p ts (⟨t, ⟨op, d, a, b⟩⟩ : Ed) ((M.drop (k + 1)).drop (j + 1)) ++ pairsL p ts (M.drop (k + 1))) = PL by
                  have := HL2.out; rw [HPD.out] at this; exact this)
                go_wp2_with fail
                go_roundw
                case rel => exact ⟨j + 1, L2, by omega, by go_num, HG5.out, HB5.out, HO5.out, HPN.out⟩
                case measure => simp [intOf]; omega
              | true =>
                have HPN := Lib.hid (show (L2 ++ [(⟨some ⟨wr.heap.size + 1, 0, none⟩, 2, 2, [(⟨t, ⟨op, d, a, b⟩⟩ : Ed), (⟨t2, ⟨op2, d2, a2, b2⟩⟩ : Ed)]⟩ : Lo Ed)]).map Lo.x ++ (pairX p ts (⟨t, ⟨op, d, a, b⟩⟩ : Ed) ((M.drop (k + 1)).drop (j + 1)) ++ pairsL p ts (M.drop (k + 1))) = PL by
                  have := HL2.out; rw [HPD.out] at this; simpa using this)
                go_wp2_with (at_builtin; refine wpList_appAt _ rfl (.tmp 45) (.tmp 47) 141 rfl w2.heap.size 31 Tryz.underlying141 info_sle rfl (by decide) (by decide) encLo encLo_len encLo_one _ L2 rfl (((Grow.refl w5).alloc _).owns HO5.out.row) _ (⟨some ⟨wr.heap.size + 1, 0, none⟩, 2, 2, [(⟨t, ⟨op, d, a, b⟩⟩ : Ed), (⟨t2, ⟨op2, d2, a2, b2⟩⟩ : Ed)]⟩ : Lo Ed) 1 rfl (newsG _ _ (by simp) (encLo (⟨some ⟨wr.heap.size + 1, 0, none⟩, 2, 2, [(⟨t, ⟨op, d, a, b⟩⟩ : Ed), (⟨t2, ⟨op2, d2, a2, b2⟩⟩ : Ed)]⟩ : Lo Ed)) _) HLE.out (by simp; omega) ?_; intro out2 w6 hown6 hgr6 hat6)
                have HG6 := Lib.hid (show Grow w2 w6 from grown_below HO5.out.row hgr6 (Nat.le_refl _) (by simp; omega) (HG5.out.alloc _))
                have HB6 := Lib.hid (kept_blk (((Grow.refl w5).alloc _).owns HO5.out.row) hgr6 (((Grow.refl w5).alloc _).blk HB5.out) (by decide))
                have HO6 := Lib.hid ((HO5.out.grow ((Grow.refl w5).alloc _)).app (t := ⟨some ⟨wr.heap.size + 1, 0, none⟩, 2, 2, [(⟨t, ⟨op, d, a, b⟩⟩ : Ed), (⟨t2, ⟨op2, d2, a2, b2⟩⟩ : Ed)]⟩) hgr6 hown6 hat6 (HLIT5.out.grow ((Grow.refl w5).alloc _)) fun b o s hb => by
                  cases hb
                  refine ⟨fun he => ?_, by simp; omega⟩
                  have := HO2.out.lt he
                  omega)
                clear hown6 hgr6 hat6
                go_roundw
                case rel => exact ⟨j + 1, _, by omega, by go_num, HG6.out, HB6.out, HO6.out, HPN.out⟩
                case measure => simp [intOf]; omega
            · have hff : f = false := by rw [← hf]; unfold dblB; rw [decide_eq_false htt]; rfl
              subst hff
              have HPN := Lib.hid (show L2.map Lo.x ++ (pairX p ts (⟨t, ⟨op, d, a, b⟩⟩ : Ed) ((M.drop (k + 1)).drop (j + 1)) ++ pairsL p ts (M.drop (k + 1))) = PL by
                have := HL2.out; rw [HPD.out] at this; exact this)
              clear hf
              go_wp2_with fail
              go_roundw
              case rel => exact ⟨j + 1, L2, by omega, by go_num, HG2.out.trans HGXY.out, HGXY.out.blk HB2.out, HO2.out.grow HGXY.out, HPN.out⟩
              case measure => simp [intOf]; omega
          · have hjm2 : j = m := by omega
            have HNX := Lib.hid (show L2.map Lo.x ++ pairsL p ts (M.drop (k + 1)) = PL by
              have := HL2.out
              rw [List.drop_drop, List.drop_eq_nil_of_le (show M.length ≤ k + 1 + j by have := HMM.out; omega)] at this
              exact this)
            clear hjm2
            go_wp2_with fail
            go_roundw
            case rel => exact ⟨k + 1, L2, by omega, by go_num, HG2.out, HO2.out, HNX.out⟩
            case measure => simp [intOf]; omega
    · have hkn : k = M.length := by omega
      have hLM := HLX.out
      rw [hkn, List.drop_eq_nil_of_le (Nat.le_refl _)] at hLM
      have HLM := Lib.hid (show L.map Lo.x = PL by simpa [pairsL] using hLM)
      have HLS := Lib.hid (lists_of HOW.out.at_ HOW.out.ins)
      obtain ⟨oa, oc, rfl, jk5⟩ := HOW.out.at_
      have hlt3 : ¬ (k : Int) < (M.length : Int) := by omega
      clear hLM hkn jk5
      go_wp2_with fail
      refine smallest_any p (L.map toLst) _ _ _ (HP.out.grow HG.out) HLS.out _ ?_ ?_
      · intro h0 w5 hg5
        have hE0 : PL = [] := by
          rw [← HLM.out]
          have := List.map_eq_nil_iff.1 h0
          rw [this]; rfl
        have HF := Lib.hid (HR0.out hE0 w5 (HG.out.trans hg5))
        clear hg5 h0 hE0
        go_wp2_with fail
        exact HF.out
      · intro w5 j u hg5 hu hfm
        have hmap : ((L.map toLst).map fun t => sizeE p t.x) = PL.map (sizeE p) := by
          rw [← HLM.out, List.map_map, List.map_map]; rfl
        have hEu : PL[j]? = some u.x := by
          rw [← HLM.out, List.getElem?_map]
          rw [List.getElem?_map] at hu
          cases hj : L[j]? with
          | none => rw [hj] at hu; cases hu
          | some t => rw [hj] at hu; cases hu; rfl
        rw [hmap] at hfm
        have hI := HLS.out.ins u (List.mem_of_getElem? hu)
        have HF := Lib.hid (HR1.out w5 u.v j u.x (HG.out.trans hg5) hEu hfm (hI.grow hg5))
        obtain ⟨ua, un, uc, ux⟩ := u
        dsimp only [Lst.v] at HF ⊢
        clear hg5 hu hfm hmap hI hEu
        go_wp2_with fail
        exact HF.out
end Go.Proofs.YtbccbokjecdaaaaGreat

namespace Go.Proofs.YtbccbokjecdaaaaGreat
open Go.RowKit

set_option maxRecDepth 100000 in
set_option maxHeartbeats 16000000 in
theorem rtemplatesO_any (op d a b : Int) (w : World) (hok : vL op d a b = true) (R : Ending → World → Prop)
    (hR : ∀ w' v, Grow w w' → Own 4 encL w.heap.size w' v (tmpl ⟨op, d, a, b⟩) → R (.returned v) w') :
    Calls Tryz.prog 92 #[.agg #[.int .i64 op, .int .i64 d, .int .i64 a, .int .i64 b]] w R := by
  rw [tmpl_filter (show (⟨op, d, a, b⟩ : Ln).ok = true from hok)] at hR
  have HR := Lib.hid hR
  have HOK := Lib.hid hok
  obtain ⟨F, hF⟩ : ∃ F, (fun x => rnearB ⟨op, d, a, b⟩ x) = F := ⟨_, rfl⟩
  rw [hF] at HR
  have HFF := Lib.hid hF
  obtain ⟨N, hN⟩ : ∃ N, allR.length = N := ⟨_, rfl⟩
  have HN := Lib.hid hN
  have hNb : N ≤ 1000 := by rw [← hN]; decide +kernel
  clear hR hok hF hN
  go_enter Tryz.func92, Tryz.ntmps92
  go_wp2_with fail
  have hb := heap_alloc_new w (.cells #[.int .i64 op, .int .i64 d, .int .i64 a, .int .i64 b] 25)
  have hg := (Grow.refl w).alloc (.cells #[.int .i64 op, .int .i64 d, .int .i64 a, .int .i64 b] 25)
  generalize w.alloc (.cells #[.int .i64 op, .int .i64 d, .int .i64 a, .int .i64 b] 25) = W at hb hg ⊢
  refine rAll_any _ _ ?_
  intro w1 x1 hg1 hx1
  have HX1 := Lib.hid hx1
  obtain ⟨aA, cA, rfl, q1, q2, _⟩ := hx1
  have HB := Lib.hid (hg1.blk hb)
  have HG1 := Lib.hid (hg.trans hg1)
  have hz1 := (hg.trans hg1).sz
  rw [HN.out] at q1 ⊢
  clear hg1 hb hg
  go_wp2_with fail
  go_loopw [4, 5] (fun out i wr => ∃ k : Nat, k ≤ N ∧ i = .int .i64 k ∧ Grow w1 wr ∧ wr.ownsRow w1.heap.size 25 4 out ((allR.take k).filter F).length (((allR.take k).filter F).flatMap encL)) (fun _ i _ => N - (intOf i).toNat)
  case atStart => exact ⟨0, Nat.zero_le _, rfl, Grow.refl _, World.ownsRow_nil _ _ _ _⟩
  case round =>
    obtain ⟨k, hk, rfl, hg, how⟩ := hrel
    have HG := Lib.hid hg
    have HOW := Lib.hid how
    have hzw := hg.sz
    clear hg how
    by_cases hlt : k < N
    · obtain ⟨⟨op2, d2, a2, b2⟩, hx⟩ : ∃ x, allR[k]? = some x := ⟨_, List.getElem?_eq_getElem (by rw [HN.out]; exact hlt)⟩
      have hx1' := HX1.out.grow HG.out
      rw [HN.out] at hx1'
      obtain ⟨gA, oA, rfl, hgA, f0, f1, f2, f3⟩ := lines_at hx1' hx
      obtain ⟨e0, e1, e2, e3⟩ := box4 (HG.out.blk HB.out)
      have hzb := lt_of_block (HG.out.blk HB.out)
      have hlt2 : (k : Int) < (N : Int) := by omega
      have HS := Lib.hid (filter_take_succ (F := F) hx)
      have HLB := Lib.hid (show ((allR.take k).filter F).length < 100000000000 by have := filter_take_len F allR k; have := HN.out; omega)
      have HOK2 := Lib.hid (mem_allR.1 (List.mem_of_getElem? hx))
      obtain ⟨c, hc⟩ : ∃ c, rnearB ⟨op, d, a, b⟩ ⟨op2, d2, a2, b2⟩ = c := ⟨_, rfl⟩
      have HF := Lib.hid (show F ⟨op2, d2, a2, b2⟩ = c by rw [← HFF.out]; exact hc)
      have HCB := Lib.hid hc
      clear hx hx1' hc
      go_wp2_with fail
      go_region_held3 (fun X => X.cell? ⟨w.heap.size, 0, none⟩ = some (.int .i64 op) ∧ X.cell? ⟨w.heap.size, 1, none⟩ = some (.int .i64 d) ∧ X.cell? ⟨w.heap.size, 2, none⟩ = some (.int .i64 a) ∧ X.cell? ⟨w.heap.size, 3, none⟩ = some (.int .i64 b) ∧ X.cell? ⟨gA, oA + k * 4, none⟩ = some (.int .i64 op2) ∧ X.cell? ⟨gA, oA + k * 4 + 1, none⟩ = some (.int .i64 d2) ∧ X.cell? ⟨gA, oA + k * 4 + 2, none⟩ = some (.int .i64 a2) ∧ X.cell? ⟨gA, oA + k * 4 + 3, none⟩ = some (.int .i64 b2) ∧ Grow wr X)
        (first | exact ⟨e0, e1, e2, e3, f0, f1, f2, f3, (Grow.refl wr).drew⟩ | exact ⟨e0, e1, e2, e3, f0, f1, f2, f3, Grow.refl wr⟩ | exact keep8 hg8 (by assumption))
        (first | (go_at_call 64; refine rnear_any op d a b op2 d2 a2 b2 _ HOK.out HOK2.out _ ?_; intro w8 hg8; rw [HCB.out]))
      rename_i hS
      obtain ⟨_, _, _, _, y0, y1, y2, y3, hgr⟩ := hS
      have HG8 := Lib.hid hgr
      have hgA8 : gA < w8.heap.size := Nat.lt_of_lt_of_le hgA hgr.sz
      clear hgr hg8 e0 e1 e2 e3 f0 f1 f2 f3
      cases c with
      | false =>
        go_wp2_with fail
        go_roundw
        case rel => exact ⟨k + 1, by omega, by go_num, HG.out.trans HG8.out, by rw [HS.out, HF.out, if_neg (by decide), List.append_nil]; exact HG8.out.owns HOW.out⟩
        case measure => simp [intOf]; omega
      | true =>
        go_wp2_with (at_builtin; refine wpList_app _ rfl (.tmp 19) (.tmp 24) 22 rfl w1.heap.size 25 Tryz.underlying22 info_ln rfl (by decide) (by decide) encL encL_len encL_one _ ((allR.take k).filter F) rfl ((HG8.out.alloc _).owns HOW.out) _ (⟨op2, d2, a2, b2⟩ : Ln) 1 rfl (news_gen _ _ (by simp) (encL ⟨op2, d2, a2, b2⟩) _) HLB.out (by have := HG.out.sz; have := HG8.out.sz; simp; omega) ?_; intro out2 w3 hown2 hgr2)
        have HG3 := Lib.hid (show Grow w1 w3 from grown_below HOW.out hgr2 (Nat.le_refl _) (by have := HG.out.sz; have := HG8.out.sz; simp; omega) (HG.out.trans (HG8.out.alloc _)))
        have HO2 := Lib.hid hown2
        clear hown2 hgr2
        go_roundw
        case rel => exact ⟨k + 1, by omega, by go_num, HG3.out, by rw [HS.out, HF.out, if_pos rfl]; exact HO2.out⟩
        case measure => simp [intOf]; omega
    · have hkn : k = allR.length := by rw [HN.out]; omega
      have HO2 := HOW.out
      rw [hkn, List.take_length] at HO2
      have HF := Lib.hid (HR.out _ _ (HG1.out.trans HG.out) ⟨_, ownsRow_mono HO2 hz1⟩)
      clear HO2 hkn
      go_wp2_with fail
      exact HF.out

set_option maxRecDepth 100000 in
set_option maxHeartbeats 16000000 in
theorem r5mutants_any (p : List Ln) (pv : Value) (w : World) (hp : LinesAt w pv p) (hval : valP p = 0) (R : Ending → World → Prop)
    (hR : ∀ w' v, Grow w w' → EditsAt w' v (mutM p p.length) → R (.returned v) w') :
    Calls Tryz.prog 56 #[pv] w R := by
  have HP := Lib.hid hp
  have HR := Lib.hid hR
  have HV := Lib.hid hval
  have hp8 := (valP_ok.1 hval).1
  have HALL := Lib.hid (valP_ok.1 hval).2
  obtain ⟨pa, pc, rfl, p1, p2, _⟩ := hp
  clear hR hval
  go_enter Tryz.func56, Tryz.ntmps56
  go_wp2_with fail
  go_loopw [3, 4, 5, 6] (fun out i _ _ wr => ∃ (k : Nat) (ov : Value), k ≤ p.length ∧ i = .int .i64 k ∧ ov = out ∧ Grow w wr ∧ wr.ownsRow w.heap.size 27 5 ov (mutM p k).length ((mutM p k).flatMap encE)) (fun _ i _ _ _ => p.length - (intOf i).toNat)
  case atStart => exact ⟨0, _, Nat.zero_le _, rfl, rfl, Grow.refl _, World.ownsRow_nil _ _ _ _⟩
  case round =>
    obtain ⟨k, out, hk, rfl, rfl, hg, how⟩ := hrel
    have HG := Lib.hid hg
    have HOW := Lib.hid how
    have hzw := hg.sz
    clear hg how
    by_cases hlt : k < p.length
    · obtain ⟨⟨op, d, a, b⟩, hx⟩ : ∃ x, p[k]? = some x := ⟨_, List.getElem?_eq_getElem hlt⟩
      obtain ⟨gp, o, rfl, hgp, y0, y1, y2, y3⟩ := lines_at (HP.out.grow HG.out) hx
      have hlt2 : (k : Int) < (p.length : Int) := by omega
      have hla : lineAt p (k : Int) = ⟨op, d, a, b⟩ := by unfold lineAt; rw [show ((k : Int)).toNat = k by omega, hx]; rfl
      have HOKL := Lib.hid (show vL op d a b = true from HALL.out _ (List.mem_of_getElem? hx))
      have hlen := mutM_len HV.out k hk
      have htl := tmpl_len (l := ⟨op, d, a, b⟩) HOKL.out
      have hsc := mutM_succ p k
      rw [hla] at hsc
      obtain ⟨L, hL⟩ : ∃ L, tmpl ⟨op, d, a, b⟩ = L := ⟨_, rfl⟩
      rw [hL] at hsc htl
      have HSC := Lib.hid hsc
      have HL := Lib.hid hL
      clear hx hla hsc hL
      go_wp2_with fail
      refine rtemplatesO_any op d a b _ HOKL.out _ ?_
      intro w1 v1 hg1 hv1
      rw [HL.out] at hv1
      have hs1 := hv1.slc encL_len
      obtain ⟨a1, c1, rfl, q1, q2, _⟩ := hs1
      have HV1 := Lib.hid (show LinesAt w1 (.slice a1 L.length c1) L from hv1.slc encL_len)
      have hblk := own_blk hv1
      have HNE := Lib.hid (show ∀ b o s, a1 = some ⟨b, o, s⟩ → out.ownBlock ≠ some b from fun b o s h he => by have h1 := hblk b o s h; have h2 := (HOW.out.lt b he).2; omega)
      have HG1 := Lib.hid (HG.out.trans hg1)
      have HO1 := Lib.hid (hg1.owns HOW.out)
      have hz1 := (HG.out.trans hg1).sz
      clear hg1 hv1 hblk y0 y1 y2 y3 HOW
      go_wp2_with fail
      obtain ⟨wo, hwo⟩ : ∃ z : World, z = wr := ⟨_, rfl⟩
      clear hwo
      go_loopw [3, 6] (fun out i wr => ∃ j : Nat, j ≤ L.length ∧ i = .int .i64 j ∧ Grow w wr ∧ LinesAt wr (.slice a1 L.length c1) L ∧ (∀ b o s, a1 = some ⟨b, o, s⟩ → out.ownBlock ≠ some b) ∧ wr.ownsRow w.heap.size 27 5 out (mutM p k ++ (L.take j).map (Ed.mk k)).length ((mutM p k ++ (L.take j).map (Ed.mk k)).flatMap encE)) (fun _ i _ => L.length - (intOf i).toNat)
      case atStart => exact ⟨0, Nat.zero_le _, rfl, HG1.out, HV1.out, HNE.out, by simpa using HO1.out⟩
      case round =>
        obtain ⟨j, hj, rfl, hgw, hlw, hnw, how⟩ := hrel
        have HGW := Lib.hid hgw
        have HLW := Lib.hid hlw
        have HNW := Lib.hid hnw
        have HOW := Lib.hid how
        have hzw2 := hgw.sz
        clear hgw hlw hnw how HO1 HV1 HNE
        by_cases hjl : j < L.length
        · obtain ⟨⟨o2, d2, a2, b2⟩, hx⟩ : ∃ x, L[j]? = some x := ⟨_, List.getElem?_eq_getElem hjl⟩
          obtain ⟨gA, oA, rfl, hgA, f0, f1, f2, f3⟩ := lines_at HLW.out hx
          have hjl2 : (j : Int) < (L.length : Int) := by omega
          have HTK := Lib.hid (show mutM p k ++ (L.take (j + 1)).map (Ed.mk k) = (mutM p k ++ (L.take j).map (Ed.mk k)) ++ [⟨(k : Int), ⟨o2, d2, a2, b2⟩⟩] by rw [List.take_add_one, hx, List.map_append, List.append_assoc]; rfl)
          have HLB := Lib.hid (show (mutM p k ++ (L.take j).map (Ed.mk k)).length < 100000000000 by rw [List.length_append, List.length_map, List.length_take]; omega)
          have hgb2 := (Grow.refl wr).alloc (.cells #[.int .i64 (k : Int), .int .i64 o2, .int .i64 d2, .int .i64 a2, .int .i64 b2] 27)
          clear hx
          go_wp2_with (at_builtin; refine wpList_appAt _ rfl (.tmp 24) (.tmp 31) 31 rfl w.heap.size 27 Tryz.underlying31 info_ed rfl (by decide) (by decide) encE encE_len encE_one _ (mutM p k ++ (L.take j).map (Ed.mk k)) rfl (hgb2.owns HOW.out) _ (⟨(k : Int), ⟨o2, d2, a2, b2⟩⟩ : Ed) 1 rfl (newsG _ _ (by simp) (encE ⟨(k : Int), ⟨o2, d2, a2, b2⟩⟩) _) HLB.out (by simp; omega) ?_; intro out2 w4 hown2 hgr2 hat2)
          have HG4 := Lib.hid (show Grow w w4 from grown_below HOW.out hgr2 (Nat.le_refl _) (by simp; omega) (HGW.out.trans hgb2))
          have HL4 := Lib.hid (slc_kept (HLW.out.grow hgb2) hgr2 HNW.out)
          have HN4 := Lib.hid (show ∀ b o s, (some (⟨gA, oA, none⟩ : Addr)) = some ⟨b, o, s⟩ → out2.ownBlock ≠ some b from fun b o s h he => by
            rcases hat2 with h2 | h2
            · rw [h2] at he; exact HNW.out b o s h he
            · rw [h2] at he
              cases h
              have := Option.some.inj he
              simp at this
              omega)
          have HO2 := Lib.hid hown2
          clear hown2 hgr2 hat2 f0 f1 f2 f3
          go_roundw
          case rel => exact ⟨j + 1, by omega, by go_num, HG4.out, HL4.out, HN4.out, by rw [HTK.out]; exact HO2.out⟩
          case measure => simp [intOf]; omega
        · have hjn : j = L.length := by omega
          have HO2 := HOW.out
          rw [hjn, List.take_length, ← HSC.out] at HO2
          have HO3 := Lib.hid HO2
          clear HO2 hjn
          go_wp2_with fail
          go_roundw
          case rel => exact ⟨k + 1, _, by omega, by go_num, rfl, HGW.out, HO3.out⟩
          case measure => simp [intOf]; omega
    · have hkn : k = p.length := by omega
      have HO2 := HOW.out
      rw [hkn] at HO2
      have HF := Lib.hid (HR.out _ _ HG.out (slc_of_owns encE_len HO2))
      clear HO2 hkn
      go_wp2_with fail
      exact HF.out

set_option maxHeartbeats 4000000 in
theorem r5Mutants_any (p : List Ln) (pv : Value) (w : World) (hp : LinesAt w pv p) (R : Ending → World → Prop)
    (hR : ∀ w' v, Grow w w' → EditsAt w' v (mutO p) → R (.returned (.tuple #[v, .int .i64 (valP p)])) w') :
    Calls Tryz.prog 17 #[pv] w R := by
  have HP := Lib.hid hp
  rw [show mutO p = ifOK (valP p) (mutM p p.length) from rfl] at hR
  have HR := Lib.hid hR
  obtain ⟨e, he⟩ : ∃ e, valP p = e := ⟨_, rfl⟩
  rw [he] at HR
  have HE := Lib.hid he
  obtain ⟨pa, pc, rfl, _⟩ := hp
  clear hR he
  by_cases h0 : e = 0
  · subst h0
    rw [ifOK_ok] at HR
    go_enter Tryz.func17, Tryz.ntmps17
    go_wp2_with fail
    refine rValidate_any p _ _ HP.out _ ?_
    intro w1 hg1
    rw [HE.out]
    have HG1 := Lib.hid hg1
    clear hg1
    go_wp2_with fail
    refine r5mutants_any p _ _ (HP.out.grow HG1.out) HE.out _ ?_
    intro w2 v2 hg2 hv2
    have HF := Lib.hid (HR.out w2 v2 (HG1.out.trans hg2) hv2)
    clear hg2 hv2
    go_wp2_with fail
    exact HF.out
  · rw [ifOK_err h0] at HR
    have t1 : (e != 0) = true := by simpa using h0
    clear h0
    go_enter Tryz.func17, Tryz.ntmps17
    go_wp2_with fail
    refine rValidate_any p _ _ HP.out _ ?_
    intro w1 hg1
    rw [HE.out]
    have HF := Lib.hid (HR.out w1 (.slice none 0 0) hg1 (SlcAt.nil _ _ _))
    clear hg1
    go_wp2_with fail
    exact HF.out
end Go.Proofs.YtbccbokjecdaaaaGreat

namespace Go.Proofs.YtbccbokjecdaaaaGreat
open Go.RowKit

theorem info_sll : (Tryz.prog.info? 22).map (fun i => (i.zero, i.size, i.bytes)) = some (some (.slice none 0 0), 1, 24) := by kernel_rfl
/-- How the search stands: what it has found, and the pairs that are still to come. -/
def DI (p : List Ln) (w4 : World) (PL : List (List Ed)) (wr : World) (ov lv : Value) (rest : List (List Ed)) : Prop :=
  ∃ (G : List (List Ed)) (e : List Ed) (m : Int), lv = .int .i64 m ∧ Grow w4 wr ∧ EditsAt wr ov e ∧ BestG (sizeE p) [] G e m ∧ G ++ rest = PL

set_option maxRecDepth 100000 in
set_option maxHeartbeats 32000000 in
theorem r5double_any (p : List Ln) (ts : List Tst) (pv tv : Value) (w : World) (hp : LinesAt w pv p) (ht : TestsAt w tv ts) (hval : valP p = 0) (htv : valT ts = 0) (R : Ending → World → Prop)
    (hR : ∀ w' v e m, Grow w w' → EditsAt w' v e → BestG (sizeE p) [] (pairsL p ts (mutM p p.length)) e m → R (.returned (.tuple #[v, .bool (decide (0 ≤ m))])) w') :
    Calls Tryz.prog 87 #[pv, tv] w R := by
  have HP := Lib.hid hp
  have HT := Lib.hid ht
  have HV := Lib.hid hval
  have HVT := Lib.hid htv
  have hp8 := (valP_ok.1 hval).1
  have HALL := Lib.hid (valP_ok.1 hval).2
  obtain ⟨PL, hPL⟩ : ∃ L, pairsL p ts (mutM p p.length) = L := ⟨_, rfl⟩
  rw [hPL] at hR
  have HPL := Lib.hid hPL
  have HR := Lib.hid hR
  obtain ⟨pa, pc, rfl, r1, r2, jk1⟩ := hp
  obtain ⟨⟨ta, tc, rfl, jk2⟩, jk3⟩ := ht
  clear hR hval htv hPL jk1 jk2 jk3
  go_enter Tryz.func87, Tryz.ntmps87
  go_wp2_with fail
  go_loopw [6, 7] (fun out i wr => ∃ (k : Nat) (L : List (Lo Ln)), k ≤ p.length ∧ i = .int .i64 k ∧ Grow w wr ∧ LoOwn w.heap.size 22 4 encL wr out L ∧ L.map Lo.x = (List.range k).map fun n : Nat => tmpl (lineAt p n)) (fun _ i _ => p.length - (intOf i).toNat)
  case atStart => exact ⟨0, [], Nat.zero_le _, rfl, Grow.refl _, LoOwn.nil _ _ _ _ _, rfl⟩
  case round =>
    obtain ⟨k, L, hk, rfl, hg, how, hLx⟩ := hrel
    have HG := Lib.hid hg
    have HOW := Lib.hid how
    have HLX := Lib.hid hLx
    have hzw := hg.sz
    have hLk : L.length = k := by have := congrArg List.length hLx; simpa using this
    clear hg how hLx
    by_cases hlt : k < p.length
    · obtain ⟨⟨op, d, a, b⟩, hx⟩ : ∃ x, p[k]? = some x := ⟨_, List.getElem?_eq_getElem hlt⟩
      obtain ⟨gp, o, rfl, hgp, y0, y1, y2, y3⟩ := lines_at (HP.out.grow HG.out) hx
      have hlt2 : (k : Int) < (p.length : Int) := by omega
      have hla : lineAt p (k : Int) = ⟨op, d, a, b⟩ := by unfold lineAt; rw [show ((k : Int)).toNat = k by omega, hx]; rfl
      have HOKL := Lib.hid (show vL op d a b = true from HALL.out _ (List.mem_of_getElem? hx))
      obtain ⟨Q, hQ⟩ : ∃ L, tmpl ⟨op, d, a, b⟩ = L := ⟨_, rfl⟩
      have HQ := Lib.hid hQ
      have HLN := Lib.hid (show (List.range (k + 1)).map (fun n : Nat => tmpl (lineAt p n)) = (List.range k).map (fun n : Nat => tmpl (lineAt p n)) ++ [Q] by rw [List.range_succ, List.map_append, List.map_cons, hla, hQ]; rfl)
      have HLE := Lib.hid (show L.length < 100000000000 by omega)
      clear hx hla hQ hLk
      go_wp2_with fail
      refine rtemplatesO_any op d a b _ HOKL.out _ ?_
      intro w1 v1 hg1 hv1
      rw [HQ.out] at hv1
      have HX1 := Lib.hid (hv1.slc encL_len)
      obtain ⟨a1, c1, rfl, q1, q2, jk5⟩ := hv1.slc encL_len
      have HB1 := Lib.hid (HOW.out.new hv1)
      have HG1 := Lib.hid (HG.out.trans hg1)
      have HO1 := Lib.hid (HOW.out.grow hg1)
      have hz1 := (HG.out.trans hg1).sz
      clear hg1 hv1 y0 y1 y2 y3 HOW jk5
      go_wp2_with (at_builtin; refine wpList_appAt _ rfl (.tmp 23) (.tmp 29) 143 rfl w.heap.size 22 Tryz.underlying143 info_sll rfl (by decide) (by decide) encLo encLo_len encLo_one _ L rfl (((Grow.refl w1).alloc _).owns HO1.out.row) _ (⟨a1, Q.length, c1, Q⟩ : Lo Ln) 1 rfl (newsG _ _ (by simp) (encLo (⟨a1, Q.length, c1, Q⟩ : Lo Ln)) _) HLE.out (by simp; omega) ?_; intro out2 w5 hown5 hgr5 hat5)
      have HG5 := Lib.hid (show Grow w w5 from grown_below HO1.out.row hgr5 (Nat.le_refl _) (by simp; omega) (HG1.out.alloc _))
      have HO5 := Lib.hid ((HO1.out.grow ((Grow.refl w1).alloc _)).app (t := ⟨a1, Q.length, c1, Q⟩) hgr5 hown5 hat5 (HX1.out.grow ((Grow.refl w1).alloc _)) fun b o s hb => ⟨(HB1.out b o s hb).1, Nat.lt_of_lt_of_le (HB1.out b o s hb).2 ((Grow.refl w1).alloc _).sz⟩)
      clear hown5 hgr5 hat5
      go_roundw
      case rel => exact ⟨k + 1, L ++ [⟨a1, Q.length, c1, Q⟩], by omega, by go_num, HG5.out, HO5.out, by rw [HLN.out, List.map_append, HLX.out]; rfl⟩
      case measure => simp [intOf]; omega
    · have hkn : k = p.length := by omega
      subst hkn
      have HN := Lib.hid HOW.out.at_
      have HIN := Lib.hid (fun (n : Nat) (t : Lo Ln) (h : L[n]? = some t) => show t.x = tmpl (lineAt p n) ∧ LinesAt wr t.v t.x from by
        refine ⟨?_, HOW.out.ins t (List.mem_of_getElem? h)⟩
        have h1 := congrArg (fun l => l[n]?) HLX.out
        simp only [List.getElem?_map, h] at h1
        have hn : n < p.length := by have := (List.getElem?_eq_some_iff.1 h).1; omega
        rw [List.getElem?_range hn] at h1
        exact Option.some.inj h1)
      obtain ⟨na, nc, rfl, n1, n2, jk6⟩ := HOW.out.at_
      have hlt3 : ¬ (p.length : Int) < (p.length : Int) := by omega
      clear jk6 hk hlt HOW HLX
      go_wp2_with fail
      obtain ⟨w4, rfl⟩ : ∃ z : World, z = wr := ⟨_, rfl⟩
      go_loopw [8, 9, 10] (fun ov lv i wr => ∃ i' : Nat, i' ≤ p.length ∧ i = .int .i64 i' ∧ DI p w4 PL wr ov lv (pairsL p ts (tailM p i' (p.length - i')))) (fun _ _ i _ => p.length - (intOf i).toNat)
      case atStart => exact ⟨0, Nat.zero_le _, rfl, [], [], -1, rfl, Grow.refl _, SlcAt.nil _ _ _, BestG.start _ _, by rw [Nat.sub_zero, tailM_all]; exact HPL.out⟩
      case round =>
        obtain ⟨i, hi, rfl, G, e, m, rfl, hg, he, hbe, hrest⟩ := hrel
        have HG0 := Lib.hid hg
        have HE := Lib.hid he
        have HBE := Lib.hid hbe
        have HRS := Lib.hid hrest
        clear hg he hbe hrest
        by_cases hlti : i < p.length
        · have hlti2 : (i : Int) < (p.length : Int) := by omega
          obtain ⟨⟨op, d, a, b⟩, hl⟩ : ∃ l, p[i]? = some l := ⟨_, List.getElem?_eq_getElem hlti⟩
          have hla : lineAt p (i : Int) = ⟨op, d, a, b⟩ := by unfold lineAt; rw [show ((i : Int)).toNat = i by omega, hl]; rfl
          obtain ⟨t, ht⟩ : ∃ t, L[i]? = some t := ⟨_, List.getElem?_eq_getElem (by omega)⟩
          obtain ⟨htx, hti⟩ := HIN.out i t ht
          obtain ⟨gN, oN, rfl, hgN, n0⟩ := lo_at HN.out ht
          obtain ⟨gp, o, rfl, hgp, _, _, _, _⟩ := lines_at HP.out hl
          have hti2 := hti
          obtain ⟨ta1, tn, tc1, X⟩ := t
          obtain ⟨_, _, e', x1, x2, jk7⟩ := hti2
          dsimp only at e' htx n0 hti
          cases e'
          have HTX := Lib.hid htx
          have HL := Lib.hid hl
          have HLA := Lib.hid hla
          have HXA := Lib.hid hti
          have hta := tailM_at hlti
          obtain ⟨TT, hTT⟩ : ∃ z, tailM p (i + 1) (p.length - (i + 1)) = z := ⟨_, rfl⟩
          rw [hTT] at hta
          have HTT := Lib.hid hTT
          have HN0 := Lib.hid n0
          have HRS2 := Lib.hid (show G ++ pairsL p ts ((nearX p i).drop 0 ++ TT) = PL by rw [List.drop_zero, ← hta]; exact HRS.out)
          clear hta hTT htx hl hla hti ht jk7 n0 HRS
          go_wp2_with fail
          obtain ⟨wo, hwo⟩ : ∃ z : World, z = wr := ⟨_, rfl⟩
          clear hwo
          go_loopw [8, 9, 11] (fun ov lv q wr => ∃ a' : Nat, a' ≤ X.length ∧ q = .int .i64 a' ∧ DI p w4 PL wr ov lv (pairsL p ts ((nearX p i).drop a' ++ TT))) (fun _ _ q _ => X.length - (intOf q).toNat)
          case atStart => exact ⟨0, Nat.zero_le _, rfl, G, e, m, rfl, HG0.out, HE.out, HBE.out, HRS2.out⟩
          case round =>
            obtain ⟨a', ha', rfl, G, e, m, rfl, hg, he, hbe, hrest⟩ := hrel
            clear HG0 HE HBE HRS2
            have HG0 := Lib.hid hg
            have HE := Lib.hid he
            have HBE := Lib.hid hbe
            have HRS := Lib.hid hrest
            have hgNr : gN < wr.heap.size := Nat.lt_of_lt_of_le hgN hg.sz
            have nn := hg.cell HN0.out
            clear hg he hbe hrest
            by_cases hax : a' < X.length
            · have hax2 : (a' : Int) < (X.length : Int) := by omega
              obtain ⟨⟨op1, d1, a1, b1⟩, hx⟩ : ∃ x, X[a']? = some x := ⟨_, List.getElem?_eq_getElem hax⟩
              have HXT := Lib.hid (show (tmpl (lineAt p i))[a']? = some (⟨op1, d1, a1, b1⟩ : Ln) by rw [← HTX.out]; exact hx)
              have HXOK := Lib.hid (tmpl_ok (List.mem_of_getElem? HXT.out))
              have hrc := restC (ts := ts) (T := TT) HXT.out
              obtain ⟨RC, hRC⟩ : ∃ z, pairsL p ts ((nearX p i).drop (a' + 1) ++ TT) = z := ⟨_, rfl⟩
              rw [hRC] at hrc
              have HRC := Lib.hid hRC
              have HRS2 := Lib.hid (show G ++ (pairX p ts ⟨i, ⟨op1, d1, a1, b1⟩⟩ (tailM p (i + 1) (p.length - (i + 1))) ++ RC) = PL by rw [HTT.out, ← hrc]; exact HRS.out)
              obtain ⟨s1, hs1⟩ : ∃ s, fieldsN ⟨op, d, a, b⟩ ⟨op1, d1, a1, b1⟩ = s := ⟨_, rfl⟩
              have hs1b := fieldsN_le ⟨op, d, a, b⟩ ⟨op1, d1, a1, b1⟩
              rw [hs1] at hs1b
              have HS1 := Lib.hid hs1
              obtain ⟨g1, o1, e1', hg1, e0, e1, e2, e3⟩ := lines_at (HP.out.grow (HG.out.trans HG0.out)) HL.out
              cases e1'
              obtain ⟨gA, oA, rfl, hgA, f0, f1, f2, f3⟩ := lines_at (HXA.out.grow HG0.out) hx
              have HXX := Lib.hid hx
              clear hx hrc hRC hs1 HRS
              go_wp2_with fail
              go_region_held3 (fun Z => Z.cell? ⟨gp, o + i * 4, none⟩ = some (.int .i64 op) ∧ Z.cell? ⟨gp, o + i * 4 + 1, none⟩ = some (.int .i64 d) ∧ Z.cell? ⟨gp, o + i * 4 + 2, none⟩ = some (.int .i64 a) ∧ Z.cell? ⟨gp, o + i * 4 + 3, none⟩ = some (.int .i64 b) ∧ Z.cell? ⟨gN, oN + i, none⟩ = some (.slice (some ⟨gA, oA, none⟩) X.length tc1) ∧ Z.cell? ⟨gA, oA + a' * 4, none⟩ = some (.int .i64 op1) ∧ Z.cell? ⟨gA, oA + a' * 4 + 1, none⟩ = some (.int .i64 d1) ∧ Z.cell? ⟨gA, oA + a' * 4 + 2, none⟩ = some (.int .i64 a1) ∧ Z.cell? ⟨gA, oA + a' * 4 + 3, none⟩ = some (.int .i64 b1) ∧ Grow wr Z)
                (first | exact ⟨e0, e1, e2, e3, nn, f0, f1, f2, f3, (Grow.refl wr).drew⟩ | exact ⟨e0, e1, e2, e3, nn, f0, f1, f2, f3, Grow.refl wr⟩ | exact keep9 hg8 (by assumption))
                (first | (go_at_call 106; refine rFields_any op d a b op1 d1 a1 b1 _ _ ?_; intro w8 hg8; rw [HS1.out]))
              rename_i hS
              have hgr : Grow wr w8 := hS.2.2.2.2.2.2.2.2.2
              have HG8 := Lib.hid (HG0.out.trans hgr)
              have HE8 := Lib.hid (HE.out.grow hgr)
              clear hS hgr hg8 e0 e1 e2 e3 nn f0 f1 f2 f3 HG0 HE
              go_wp2_with fail
              obtain ⟨wo, hwo⟩ : ∃ z : World, z = w8 := ⟨_, rfl⟩
              go_loopw [8, 9, 13] (fun ov lv q wr => ∃ k : Nat, i + 1 ≤ k ∧ k ≤ p.length ∧ q = .int .i64 k ∧ DI p w4 PL wr ov lv (pairX p ts ⟨i, ⟨op1, d1, a1, b1⟩⟩ (tailM p k (p.length - k)) ++ RC)) (fun _ _ q _ => p.length - (intOf q).toNat)
              case atStart => exact ⟨i + 1, Nat.le_refl _, by omega, by go_num, G, e, m, rfl, HG8.out, HE8.out, HBE.out, HRS2.out⟩
              case round =>
                obtain ⟨k, hk1, hk2, rfl, G, e, m, rfl, hg, he, hbe, hrest⟩ := hrel
                clear HG8 HE8 HBE HRS2 hwo
                have HG0 := Lib.hid hg
                have HE := Lib.hid he
                have HBE := Lib.hid hbe
                have HRS := Lib.hid hrest
                clear hg he hbe hrest
                by_cases hkp : k < p.length
                · have hkp2 : (k : Int) < (p.length : Int) := by omega
                  obtain ⟨⟨op2, d2, a2, b2⟩, hl2⟩ : ∃ l, p[k]? = some l := ⟨_, List.getElem?_eq_getElem hkp⟩
                  have hla2 : lineAt p (k : Int) = ⟨op2, d2, a2, b2⟩ := by unfold lineAt; rw [show ((k : Int)).toNat = k by omega, hl2]; rfl
                  obtain ⟨t2, ht2⟩ : ∃ t, L[k]? = some t := ⟨_, List.getElem?_eq_getElem (by omega)⟩
                  obtain ⟨hty, hti⟩ := HIN.out k t2 ht2
                  obtain ⟨_, _, e1', _, n2⟩ := lo_at HN.out ht2
                  cases e1'
                  have hti2 := hti
                  obtain ⟨ta2, tn2, tc2, Y⟩ := t2
                  obtain ⟨_, _, e', y1, y2, jk7⟩ := hti2
                  dsimp only at e' hty n2 hti
                  cases e'
                  have HTY := Lib.hid hty
                  have HL2 := Lib.hid hl2
                  have HLA2 := Lib.hid hla2
                  have HYA := Lib.hid hti
                  have hta := tailM_at hkp
                  obtain ⟨TK, hTK⟩ : ∃ z, tailM p (k + 1) (p.length - (k + 1)) = z := ⟨_, rfl⟩
                  rw [hTK] at hta
                  have HTK := Lib.hid hTK
                  have HN2 := Lib.hid n2
                  have HRS2 := Lib.hid (show G ++ (pairX p ts ⟨i, ⟨op1, d1, a1, b1⟩⟩ ((nearX p k).drop 0 ++ TK) ++ RC) = PL by rw [List.drop_zero, ← hta]; exact HRS.out)
                  clear hta hTK hty hl2 hla2 hti ht2 jk7 n2 HRS
                  go_wp2_with fail
                  obtain ⟨wo, hwo⟩ : ∃ z : World, z = wr := ⟨_, rfl⟩
                  clear hwo
                  go_loopw [8, 9, 14] (fun ov lv q wr => ∃ b' : Nat, b' ≤ Y.length ∧ q = .int .i64 b' ∧ DI p w4 PL wr ov lv (pairX p ts ⟨i, ⟨op1, d1, a1, b1⟩⟩ ((nearX p k).drop b' ++ TK) ++ RC)) (fun _ _ q _ => Y.length - (intOf q).toNat)
                  case atStart => exact ⟨0, Nat.zero_le _, rfl, G, e, m, rfl, HG0.out, HE.out, HBE.out, HRS2.out⟩
                  case round =>
                    obtain ⟨b', hb', rfl, G, e, m, rfl, hg, he, hbe, hrest⟩ := hrel
                    clear HG0 HE HBE HRS2
                    have HG0 := Lib.hid hg
                    have HE := Lib.hid he
                    have HBE := Lib.hid hbe
                    have HRS := Lib.hid hrest
                    have hgNr : gN < wr.heap.size := Nat.lt_of_lt_of_le hgN hg.sz
                    have nn := hg.cell HN2.out
                    clear hg he hbe hrest
                    by_cases hby : b' < Y.length
                    · have hby2 : (b' : Int) < (Y.length : Int) := by omega
                      obtain ⟨⟨op3, d3, a3, b3⟩, hy⟩ : ∃ x, Y[b']? = some x := ⟨_, List.getElem?_eq_getElem hby⟩
                      have HYT := Lib.hid (show (tmpl (lineAt p k))[b']? = some (⟨op3, d3, a3, b3⟩ : Ln) by rw [← HTY.out]; exact hy)
                      have HYOK := Lib.hid (tmpl_ok (List.mem_of_getElem? HYT.out))
                      have hre := restE (ts := ts) (x := ⟨(i : Int), ⟨op1, d1, a1, b1⟩⟩) (T := TK) HYT.out
                      obtain ⟨f, hf⟩ : ∃ f, dblB p ts ⟨(i : Int), ⟨op1, d1, a1, b1⟩⟩ ⟨(k : Int), ⟨op3, d3, a3, b3⟩⟩ = f := ⟨_, rfl⟩
                      rw [hf] at hre
                      have hrs := HRS.out
                      rw [hre, List.append_assoc, ← List.append_assoc] at hrs
                      have HRS2 := Lib.hid hrs
                      have hgp3 := dblB_eq (p := p) (ts := ts) (a := i) (b := k) (x := ⟨op1, d1, a1, b1⟩) (y := ⟨op3, d3, a3, b3⟩) HV.out HVT.out (by omega) (by omega) (by omega) HXOK.out HYOK.out
                      rw [hf] at hgp3
                      have HF := Lib.hid (show ts.all (passM (setAll p [⟨(i : Int), ⟨op1, d1, a1, b1⟩⟩, ⟨(k : Int), ⟨op3, d3, a3, b3⟩⟩])) = f from hgp3.symm)
                      have HSV := Lib.hid (dblP_ok (p := p) (a := i) (b := k) (x := ⟨op1, d1, a1, b1⟩) (y := ⟨op3, d3, a3, b3⟩) HV.out (by omega) (by omega) (by omega) HXOK.out HYOK.out)
                      obtain ⟨s2, hs2⟩ : ∃ s, fieldsN ⟨op2, d2, a2, b2⟩ ⟨op3, d3, a3, b3⟩ = s := ⟨_, rfl⟩
                      have hs2b := fieldsN_le ⟨op2, d2, a2, b2⟩ ⟨op3, d3, a3, b3⟩
                      rw [hs2] at hs2b
                      have HS2 := Lib.hid hs2
                      have hsz := sizeE_two (p := p) (a := i) (b := k) (x := ⟨op1, d1, a1, b1⟩) (y := ⟨op3, d3, a3, b3⟩) HV.out (by omega) (by omega) (by omega) HXOK.out HYOK.out
                      rw [HLA.out, HLA2.out, HS1.out, hs2] at hsz
                      have HSZ := Lib.hid hsz
                      have HM := Lib.hid HBE.out.size
                      obtain ⟨_, _, e1', hgk, e0, e1, e2, e3⟩ := lines_at (HP.out.grow (HG.out.trans HG0.out)) HL2.out
                      cases e1'
                      obtain ⟨gB, oB, rfl, hgB, f0, f1, f2, f3⟩ := lines_at (HYA.out.grow HG0.out) hy
                      have hw : IntKind.i64.wrap (s1 + s2) = s1 + s2 := IntWalk.i64_in _ (by omega)
                      clear hy hre hs2 hsz hf hgp3 hrs HRS
                      go_wp2_with fail
                      go_region_held3 (fun Z => Z.cell? ⟨gp, o + k * 4, none⟩ = some (.int .i64 op2) ∧ Z.cell? ⟨gp, o + k * 4 + 1, none⟩ = some (.int .i64 d2) ∧ Z.cell? ⟨gp, o + k * 4 + 2, none⟩ = some (.int .i64 a2) ∧ Z.cell? ⟨gp, o + k * 4 + 3, none⟩ = some (.int .i64 b2) ∧ Z.cell? ⟨gN, oN + k, none⟩ = some (.slice (some ⟨gB, oB, none⟩) Y.length tc2) ∧ Z.cell? ⟨gB, oB + b' * 4, none⟩ = some (.int .i64 op3) ∧ Z.cell? ⟨gB, oB + b' * 4 + 1, none⟩ = some (.int .i64 d3) ∧ Z.cell? ⟨gB, oB + b' * 4 + 2, none⟩ = some (.int .i64 a3) ∧ Z.cell? ⟨gB, oB + b' * 4 + 3, none⟩ = some (.int .i64 b3) ∧ Grow wr Z)
                        (first | exact ⟨e0, e1, e2, e3, nn, f0, f1, f2, f3, (Grow.refl wr).drew⟩ | exact ⟨e0, e1, e2, e3, nn, f0, f1, f2, f3, Grow.refl wr⟩ | exact keep9 hg8 (by assumption))
                        (first | (go_at_call 106; refine rFields_any op2 d2 a2 b2 op3 d3 a3 b3 _ _ ?_; intro w8 hg8; rw [HS2.out]))
                      rename_i hS
                      have hgr : Grow wr w8 := hS.2.2.2.2.2.2.2.2.2
                      obtain ⟨_, _, _, _, nk, v0, v1, v2, v3, _⟩ := hS
                      have HG8 := Lib.hid (HG0.out.trans hgr)
                      have HE8 := Lib.hid (HE.out.grow hgr)
                      obtain ⟨_, _, e1', hgA8, z0, z1, z2, z3⟩ := lines_at (HXA.out.grow HG8.out) HXX.out
                      cases e1'
                      have nI := HG8.out.cell HN0.out
                      have hgN8 : gN < w8.heap.size := Nat.lt_of_lt_of_le hgN HG8.out.sz
                      have hgB8 : gB < w8.heap.size := Nat.lt_of_lt_of_le hgB hgr.sz
                      have hms := HM.out
                      clear hgr hg8 e0 e1 e2 e3 nn f0 f1 f2 f3 HG0 HE
                      by_cases hm0 : m < 0
                      · have t1 : ¬ m ≥ 0 := by omega
                        go_wp2_with fail
                        go_region
                        have hlit : EditsAt ((w8.alloc (.cells #[.int .i64 (i : Int), .int .i64 op1, .int .i64 d1, .int .i64 a1, .int .i64 b1, .int .i64 (k : Int), .int .i64 op3, .int .i64 d3, .int .i64 a3, .int .i64 b3] 27)).drew) (.slice (some ⟨w8.heap.size, 0, none⟩) 2 2) [⟨(i : Int), ⟨op1, d1, a1, b1⟩⟩, ⟨(k : Int), ⟨op3, d3, a3, b3⟩⟩] := (edits_lits w8 [⟨(i : Int), ⟨op1, d1, a1, b1⟩⟩, ⟨(k : Int), ⟨op3, d3, a3, b3⟩⟩] 27 (by simp)).grow ((Grow.refl _).drew)
                        have hgl : Grow w8 ((w8.alloc (.cells #[.int .i64 (i : Int), .int .i64 op1, .int .i64 d1, .int .i64 a1, .int .i64 b1, .int .i64 (k : Int), .int .i64 op3, .int .i64 d3, .int .i64 a3, .int .i64 b3] 27)).drew) := ((Grow.refl w8).alloc _).drew
                        generalize (w8.alloc (.cells #[.int .i64 (i : Int), .int .i64 op1, .int .i64 d1, .int .i64 a1, .int .i64 b1, .int .i64 (k : Int), .int .i64 op3, .int .i64 d3, .int .i64 a3, .int .i64 b3] 27)).drew = W9 at hlit hgl ⊢
                        have HLIT := Lib.hid hlit
                        have HG9 := Lib.hid (HG8.out.trans hgl)
                        have HE9 := Lib.hid (HE8.out.grow hgl)
                        clear hlit hgl nk v0 v1 v2 v3 z0 z1 z2 z3 nI
                        go_wp2_with fail
                        refine r4Good_any p [⟨(i : Int), ⟨op1, d1, a1, b1⟩⟩, ⟨(k : Int), ⟨op3, d3, a3, b3⟩⟩] ts _ _ _ _ (HP.out.grow (HG.out.trans HG9.out)) HLIT.out (HT.out.grow (HG.out.trans HG9.out)) (by intro e he; simp at he; rcases he with rfl | rfl <;> (dsimp only; omega)) hp8 HVT.out HSV.out _ ?_
                        intro w10 hg10
                        rw [HF.out]
                        have HG10 := Lib.hid (HG9.out.trans hg10)
                        have HE10 := Lib.hid (HE9.out.grow hg10)
                        have HL10 := Lib.hid (HLIT.out.grow hg10)
                        clear hg10
                        cases f with
                        | false =>
                          have HRS3 := Lib.hid (show G ++ (pairX p ts ⟨i, ⟨op1, d1, a1, b1⟩⟩ ((nearX p k).drop (b' + 1) ++ TK) ++ RC) = PL by have := HRS2.out; simpa using this)
                          go_wp2_with fail
                          go_roundw
                          case rel => exact ⟨b' + 1, by omega, by go_num, G, e, m, rfl, HG10.out, HE10.out, HBE.out, HRS3.out⟩
                          case measure => simp [intOf]; omega
                        | true =>
                          have hbt := HBE.out.take (x := [⟨(i : Int), ⟨op1, d1, a1, b1⟩⟩, ⟨(k : Int), ⟨op3, d3, a3, b3⟩⟩]) (by rw [HSZ.out]; omega) (sizeE_nonneg p)
                          rw [HSZ.out] at hbt
                          have HBT := Lib.hid hbt
                          clear hbt
                          go_wp2_with fail
                          go_roundw
                          case rel => exact ⟨b' + 1, by omega, by go_num, _, _, s1 + s2, rfl, HG10.out, HL10.out, HBT.out, HRS2.out⟩
                          case measure => simp [intOf]; omega
                      · have t1 : m ≥ 0 := by omega
                        by_cases hsm : s1 + s2 < m
                        · have t2 : ¬ s1 + s2 ≥ m := by omega
                          go_wp2_with fail
                          go_region
                          have hlit : EditsAt ((w8.alloc (.cells #[.int .i64 (i : Int), .int .i64 op1, .int .i64 d1, .int .i64 a1, .int .i64 b1, .int .i64 (k : Int), .int .i64 op3, .int .i64 d3, .int .i64 a3, .int .i64 b3] 27)).drew) (.slice (some ⟨w8.heap.size, 0, none⟩) 2 2) [⟨(i : Int), ⟨op1, d1, a1, b1⟩⟩, ⟨(k : Int), ⟨op3, d3, a3, b3⟩⟩] := (edits_lits w8 [⟨(i : Int), ⟨op1, d1, a1, b1⟩⟩, ⟨(k : Int), ⟨op3, d3, a3, b3⟩⟩] 27 (by simp)).grow ((Grow.refl _).drew)
                          have hgl : Grow w8 ((w8.alloc (.cells #[.int .i64 (i : Int), .int .i64 op1, .int .i64 d1, .int .i64 a1, .int .i64 b1, .int .i64 (k : Int), .int .i64 op3, .int .i64 d3, .int .i64 a3, .int .i64 b3] 27)).drew) := ((Grow.refl w8).alloc _).drew
                          generalize (w8.alloc (.cells #[.int .i64 (i : Int), .int .i64 op1, .int .i64 d1, .int .i64 a1, .int .i64 b1, .int .i64 (k : Int), .int .i64 op3, .int .i64 d3, .int .i64 a3, .int .i64 b3] 27)).drew = W9 at hlit hgl ⊢
                          have HLIT := Lib.hid hlit
                          have HG9 := Lib.hid (HG8.out.trans hgl)
                          have HE9 := Lib.hid (HE8.out.grow hgl)
                          clear hlit hgl nk v0 v1 v2 v3 z0 z1 z2 z3 nI
                          go_wp2_with fail
                          refine r4Good_any p [⟨(i : Int), ⟨op1, d1, a1, b1⟩⟩, ⟨(k : Int), ⟨op3, d3, a3, b3⟩⟩] ts _ _ _ _ (HP.out.grow (HG.out.trans HG9.out)) HLIT.out (HT.out.grow (HG.out.trans HG9.out)) (by intro e he; simp at he; rcases he with rfl | rfl <;> (dsimp only; omega)) hp8 HVT.out HSV.out _ ?_
                          intro w10 hg10
                          rw [HF.out]
                          have HG10 := Lib.hid (HG9.out.trans hg10)
                          have HE10 := Lib.hid (HE9.out.grow hg10)
                          have HL10 := Lib.hid (HLIT.out.grow hg10)
                          clear hg10
                          cases f with
                          | false =>
                            have HRS3 := Lib.hid (show G ++ (pairX p ts ⟨i, ⟨op1, d1, a1, b1⟩⟩ ((nearX p k).drop (b' + 1) ++ TK) ++ RC) = PL by have := HRS2.out; simpa using this)
                            go_wp2_with fail
                            go_roundw
                            case rel => exact ⟨b' + 1, by omega, by go_num, G, e, m, rfl, HG10.out, HE10.out, HBE.out, HRS3.out⟩
                            case measure => simp [intOf]; omega
                          | true =>
                            have hbt := HBE.out.take (x := [⟨(i : Int), ⟨op1, d1, a1, b1⟩⟩, ⟨(k : Int), ⟨op3, d3, a3, b3⟩⟩]) (by rw [HSZ.out]; omega) (sizeE_nonneg p)
                            rw [HSZ.out] at hbt
                            have HBT := Lib.hid hbt
                            clear hbt
                            go_wp2_with fail
                            go_roundw
                            case rel => exact ⟨b' + 1, by omega, by go_num, _, _, s1 + s2, rfl, HG10.out, HL10.out, HBT.out, HRS2.out⟩
                            case measure => simp [intOf]; omega
                        · have t2 : s1 + s2 ≥ m := by omega
                          have HB9 := Lib.hid (HBE.out.skip (x := [⟨(i : Int), ⟨op1, d1, a1, b1⟩⟩, ⟨(k : Int), ⟨op3, d3, a3, b3⟩⟩]) hm0 (by rw [HSZ.out]; exact hsm) f)
                          go_wp2_with fail
                          go_roundw
                          case rel => exact ⟨b' + 1, by omega, by go_num, _, e, m, rfl, HG8.out, HE8.out, HB9.out, HRS2.out⟩
                          case measure => simp [intOf]; omega
                    · have hbe' : b' = Y.length := by omega
                      have HRS2 := Lib.hid (show G ++ (pairX p ts ⟨i, ⟨op1, d1, a1, b1⟩⟩ (tailM p (k + 1) (p.length - (k + 1))) ++ RC) = PL by
                        have := HRS.out
                        rw [hbe', HTY.out, nearX_end, ← HTK.out] at this
                        exact this)
                      clear hbe'
                      go_wp2_with fail
                      go_roundw
                      case rel => exact ⟨k + 1, by omega, by omega, by go_num, G, e, m, rfl, HG0.out, HE.out, HBE.out, HRS2.out⟩
                      case measure => simp [intOf]; omega
                · have hke : k = p.length := by omega
                  have HRS2 := Lib.hid (show G ++ pairsL p ts ((nearX p i).drop (a' + 1) ++ TT) = PL by
                    have := HRS.out
                    rw [hke, tailM_end, pairX_nil, List.nil_append, ← HRC.out] at this
                    exact this)
                  clear hke
                  go_wp2_with fail
                  go_roundw
                  case rel => exact ⟨a' + 1, by omega, by go_num, G, e, m, rfl, HG0.out, HE.out, HBE.out, HRS2.out⟩
                  case measure => simp [intOf]; omega
            · have hae : a' = X.length := by omega
              have HRS2 := Lib.hid (show G ++ pairsL p ts (tailM p (i + 1) (p.length - (i + 1))) = PL by
                have := HRS.out
                rw [hae, HTX.out, nearX_end, ← HTT.out] at this
                exact this)
              clear hae
              go_wp2_with fail
              go_roundw
              case rel => exact ⟨i + 1, by omega, by go_num, G, e, m, rfl, HG0.out, HE.out, HBE.out, HRS2.out⟩
              case measure => simp [intOf]; omega
        · have hie : i = p.length := by omega
          have hbe := HBE.out
          have hrs := HRS.out
          rw [hie, tailM_end] at hrs
          rw [show G = PL by simpa [pairsL] using hrs] at hbe
          obtain ⟨bb, hbb⟩ : ∃ bb, decide (0 ≤ m) = bb := ⟨_, rfl⟩
          have t1 : decide (m ≥ 0) = bb := hbb
          have HF := Lib.hid (HR.out wr _ e m (HG.out.trans HG0.out) HE.out hbe)
          rw [hbb] at HF
          clear hbe hrs hie hbb
          go_wp2_with fail
          exact HF.out
end Go.Proofs.YtbccbokjecdaaaaGreat

namespace Go.Proofs.YtbccbokjecdaaaaGreat
open Go.RowKit

set_option maxRecDepth 100000 in
set_option maxHeartbeats 8000000 in
theorem Double_any (p : List Ln) (ts : List Tst) (pv tv : Value) (w : World) (hp : LinesAt w pv p) (ht : TestsAt w tv ts) (R : Ending → World → Prop)
    (hR : ∀ w' v x ok, Grow w w' → EditsAt w' v x → DblP p ts x ok → R (.returned (.tuple #[v, .bool ok, .int .i64 (sgtE p ts 0)])) w') :
    Calls Tryz.prog 37 #[pv, tv] w R := by
  have HP := Lib.hid hp
  have HT := Lib.hid ht
  have HR := Lib.hid hR
  obtain ⟨e, he⟩ : ∃ e, sgtE p ts 0 = e := ⟨_, rfl⟩
  have hok := fun h : e = 0 => sgtE_ok.1 (he.trans h)
  rw [he] at HR
  have HE := Lib.hid he
  obtain ⟨pa, pc, rfl, jk1⟩ := hp
  obtain ⟨⟨ta, tc, rfl, jk2⟩, jk3⟩ := ht
  clear hR he jk1 jk2 jk3
  by_cases z1 : e = 0
  rotate_left
  · have HS := Lib.hid (show DblP p ts [] false from .inl ⟨rfl, rfl, .inl (by rw [HE.out]; exact z1)⟩)
    have t1 : (e != 0) = true := by simpa using z1
    clear hok z1
    go_enter Tryz.func37, Tryz.ntmps37
    go_wp2_with fail
    refine kinded_any p ts 0 _ _ _ HP.out HT.out _ ?_
    intro w1 hg1
    rw [HE.out]
    have HF := Lib.hid (HR.out w1 (.slice none 0 0) [] false hg1 (SlcAt.nil _ _ _) HS.out)
    clear hg1
    go_wp2_with fail
    exact bodyPost_ret (by simp [results, Tryz.results37, go_sem]) rfl HF.out
  obtain ⟨⟨hv, hvt⟩, _, _⟩ := hok z1
  subst z1
  have HV := Lib.hid hv
  have HVT := Lib.hid hvt
  clear hok hv hvt
  go_enter Tryz.func37, Tryz.ntmps37
  go_wp2_with fail
  refine kinded_any p ts 0 _ _ _ HP.out HT.out _ ?_
  intro w1 hg1
  rw [HE.out]
  have HG1 := Lib.hid hg1
  clear hg1
  go_wp2_with fail
  refine double_any p ts _ _ _ (HP.out.grow HG1.out) (HT.out.grow HG1.out) HV.out _ ?_ ?_
  · intro h0 w2 hg2
    have HF := Lib.hid (HR.out w2 (.slice none 0 0) [] false (HG1.out.trans hg2) (SlcAt.nil _ _ _) (.inl ⟨rfl, rfl, .inr h0⟩))
    clear hg2 h0
    go_wp2_with fail
    exact bodyPost_ret (by simp [results, Tryz.results37, go_sem]) rfl HF.out
  · intro w2 v j x hg2 hj hfm hv2
    have HF := Lib.hid (HR.out w2 v x true (HG1.out.trans hg2) hv2 (.inr ⟨rfl, HE.out, j, hj, hfm⟩))
    clear hg2 hj hfm hv2
    go_wp2_with fail
    exact bodyPost_ret (by simp [results, Tryz.results37, go_sem]) rfl HF.out
set_option maxRecDepth 100000 in
set_option maxHeartbeats 8000000 in
theorem r5Double_any (p : List Ln) (ts : List Tst) (pv tv : Value) (w : World) (hp : LinesAt w pv p) (ht : TestsAt w tv ts) (R : Ending → World → Prop)
    (hR : ∀ w' v x ok, Grow w w' → EditsAt w' v x → DblP p ts x ok → R (.returned (.tuple #[v, .bool ok, .int .i64 (sgtE p ts 0)])) w') :
    Calls Tryz.prog 38 #[pv, tv] w R := by
  have HP := Lib.hid hp
  have HT := Lib.hid ht
  have HR := Lib.hid hR
  obtain ⟨e, he⟩ : ∃ e, sgtE p ts 0 = e := ⟨_, rfl⟩
  have hok := fun h : e = 0 => sgtE_ok.1 (he.trans h)
  rw [he] at HR
  have HE := Lib.hid he
  obtain ⟨pa, pc, rfl, jk1⟩ := hp
  obtain ⟨⟨ta, tc, rfl, jk2⟩, jk3⟩ := ht
  clear hR he jk1 jk2 jk3
  by_cases z1 : e = 0
  rotate_left
  · have HS := Lib.hid (show DblP p ts [] false from .inl ⟨rfl, rfl, .inl (by rw [HE.out]; exact z1)⟩)
    have t1 : (e != 0) = true := by simpa using z1
    clear hok z1
    go_enter Tryz.func38, Tryz.ntmps38
    go_wp2_with fail
    refine r5sought_any p ts 0 _ _ _ HP.out HT.out _ ?_
    intro w1 hg1
    rw [HE.out]
    have HF := Lib.hid (HR.out w1 (.slice none 0 0) [] false hg1 (SlcAt.nil _ _ _) HS.out)
    clear hg1
    go_wp2_with fail
    exact bodyPost_ret (by simp [results, Tryz.results38, go_sem]) rfl HF.out
  obtain ⟨⟨hv, hvt⟩, _, _⟩ := hok z1
  subst z1
  have HV := Lib.hid hv
  have HVT := Lib.hid hvt
  clear hok hv hvt
  go_enter Tryz.func38, Tryz.ntmps38
  go_wp2_with fail
  refine r5sought_any p ts 0 _ _ _ HP.out HT.out _ ?_
  intro w1 hg1
  rw [HE.out]
  have HG1 := Lib.hid hg1
  clear hg1
  go_wp2_with fail
  refine r5double_any p ts _ _ _ (HP.out.grow HG1.out) (HT.out.grow HG1.out) HV.out HVT.out _ ?_
  intro w2 v x m hg2 hv2 hb
  have HF := Lib.hid (HR.out w2 v x _ (HG1.out.trans hg2) hv2 (hb.dbl HE.out))
  clear hg2 hv2 hb
  go_wp2_with fail
  exact bodyPost_ret (by simp [results, Tryz.results38, go_sem]) rfl HF.out
end Go.Proofs.YtbccbokjecdaaaaGreat
