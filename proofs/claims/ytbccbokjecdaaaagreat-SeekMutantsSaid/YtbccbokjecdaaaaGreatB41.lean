/-
The walks of smallest, single and Single: the smallest single repair.
The walks of single and Single: the smallest single repair.
The walk of sane(): the chapter's first two examples.
-/
import Derived.Test.YtbccbokjecdaaaaGreatB40
import Derived.Test.YtbccbokjecdaaaaGreatB36
import Derived.Test.YtbccbokjecdaaaaGreatB39
import Derived.Test.YtbccbokjecdaaaaGreatB23
namespace Go.Proofs.YtbccbokjecdaaaaGreat
open Go.RowKit

/-- A list of edits as it lies in a cell. -/
structure Lst where
  a : Option Addr
  n : Nat
  c : Nat
  x : List Ed
abbrev Lst.v (t : Lst) : Value := .slice t.a t.n t.c
def encW (t : Lst) : List Value := [t.v]
theorem encW_len (t : Lst) : (encW t).length = 1 := rfl
structure ListsAt (w : World) (v : Value) (L : List Lst) : Prop where
  at_ : SlcAt 1 encW w v L
  ins : ∀ t ∈ L, EditsAt w t.v t.x
theorem ListsAt.grow {w w' : World} {v : Value} {L : List Lst} (h : ListsAt w v L) (g : Grow w w') : ListsAt w' v L := ⟨h.at_.grow g, fun t ht => (h.ins t ht).grow g⟩
theorem lists_at {w : World} {a : Option Addr} {n c : Nat} {L : List Lst} (h : SlcAt 1 encW w (.slice a n c) L) {k : Nat} {t : Lst} (hx : L[k]? = some t) : ∃ b o, a = some ⟨b, o, none⟩ ∧ b < w.heap.size ∧ w.cell? ⟨b, o + k, none⟩ = some t.v := by
  obtain ⟨_, _, e, _, _, h⟩ := h
  cases e
  obtain ⟨b, o, rfl, hb, hc⟩ := h.resolve_left (by intro h0; rw [h0.1] at hx; simp at hx)
  exact ⟨b, o, rfl, hb, by simpa using hc k t hx 0 _ rfl⟩
/-- The first one of the smallest numbers of a list stands at the place j. -/
def FirstMin (S : List Int) (j : Nat) (m : Int) : Prop := S[j]? = some m ∧ ∀ (i : Nat) (s : Int), S[i]? = some s → m ≤ s ∧ (i < j → m < s)
theorem FirstMin.uniq {S : List Int} {j j' : Nat} {m m' : Int} (h : FirstMin S j m) (h' : FirstMin S j' m') : j = j' ∧ m = m' := by
  have a := h.2 j' m' h'.1
  have b := h'.2 j m h.1
  refine ⟨?_, by omega⟩
  by_cases h1 : j = j'
  · exact h1
  · have : j < j' ∨ j' < j := by omega
    rcases this with q | q
    · have := b.2 q; omega
    · have := a.2 q; omega
theorem FirstMin.step {S : List Int} {k j : Nat} {m s : Int} (h : FirstMin (S.take k) j m) (hs : S[k]? = some s) : (s < m → FirstMin (S.take (k + 1)) k s) ∧ (¬ s < m → FirstMin (S.take (k + 1)) j m) := by
  have hk : k < S.length := (List.getElem?_eq_some_iff.1 hs).1
  have hj : j < k := by
    have := (List.getElem?_eq_some_iff.1 h.1).1
    rw [List.length_take] at this; omega
  have key : ∀ (i : Nat) (t : Int), (S.take (k + 1))[i]? = some t → (i < k ∧ (S.take k)[i]? = some t) ∨ (i = k ∧ t = s) := by
    intro i t ht
    rw [List.getElem?_take] at ht
    split at ht
    · next hi =>
      by_cases e : i = k
      · subst e; rw [hs] at ht; exact .inr ⟨rfl, (Option.some.inj ht).symm⟩
      · exact .inl ⟨by omega, by rw [List.getElem?_take, if_pos (by omega)]; exact ht⟩
    · cases ht
  constructor
  · intro hlt
    refine ⟨by rw [List.getElem?_take, if_pos (by omega)]; exact hs, fun i t ht => ?_⟩
    rcases key i t ht with ⟨hi, h2⟩ | ⟨rfl, rfl⟩
    · have := h.2 i t h2
      exact ⟨by omega, fun _ => by omega⟩
    · exact ⟨by omega, fun e => by omega⟩
  · intro hlt
    have h1 := h.1
    rw [List.getElem?_take, if_pos hj] at h1
    refine ⟨by rw [List.getElem?_take, if_pos (by omega)]; exact h1, fun i t ht => ?_⟩
    rcases key i t ht with ⟨hi, h2⟩ | ⟨rfl, rfl⟩
    · exact h.2 i t h2
    · exact ⟨by omega, fun e => by omega⟩
theorem FirstMin.one {S : List Int} {m : Int} (h : S[0]? = some m) : FirstMin (S.take 1) 0 m := by
  refine ⟨by rw [List.getElem?_take, if_pos (by omega)]; exact h, fun i s hs => ?_⟩
  rw [List.getElem?_take] at hs
  split at hs
  · next hi =>
    have : i = 0 := by omega
    subst this
    rw [h] at hs
    cases hs
    exact ⟨by omega, fun e => by omega⟩
  · cases hs

/-- A comparison of two lists of edits that a function with captured values answers. -/
def CmpE (g : Nat) (cb : Array Value) (w : World) (sz : List Ed → Int) : Prop :=
  ∀ (t u : Lst) (W : World), Grow w W → EditsAt W t.v t.x → EditsAt W u.v u.x → ∀ R : Ending → World → Prop, (∀ W', Grow W W' → R (.returned (.int .i64 (cmpI (sz t.x) (sz u.x)))) W') → Calls Tryz.prog g (#[t.v, u.v] ++ cb) W R
theorem cmpI_lt {x y : Int} : cmpI x y < 0 ↔ x < y := by unfold cmpI; split <;> (try split) <;> omega

set_option maxHeartbeats 4000000 in
theorem smallF_any (p : List Ln) (t u : Lst) (pv : Value) (b : Nat) (w : World) (hp : LinesAt w pv p) (ht : EditsAt w t.v t.x) (hu : EditsAt w u.v u.x) (hb : w.heap[b]? = some (.cells #[pv] 22 (0, 0))) (R : Ending → World → Prop)
    (hR : ∀ w', Grow w w' → R (.returned (.int .i64 (cmpI (sizeE p t.x) (sizeE p u.x)))) w') :
    Calls Tryz.prog 157 #[t.v, u.v, .pointer (some ⟨b, 0, none⟩)] w R := by
  have HP := Lib.hid hp
  have HT := Lib.hid ht
  have HU := Lib.hid hu
  have HR := Lib.hid hR
  obtain ⟨s, hs⟩ : ∃ s, sizeE p t.x = s := ⟨_, rfl⟩
  obtain ⟨s', hs'⟩ : ∃ s, sizeE p u.x = s := ⟨_, rfl⟩
  rw [hs, hs'] at HR
  have HS := Lib.hid hs
  have HS2 := Lib.hid hs'
  obtain ⟨pa, pc, rfl, _⟩ := hp
  obtain ⟨ta, tn, tc, tx⟩ := t
  obtain ⟨ua, un, uc, ux⟩ := u
  obtain ⟨_, _, hv, _⟩ := ht
  obtain ⟨_, _, hv2, _⟩ := hu
  dsimp only [Lst.v] at hv hv2
  cases hv
  cases hv2
  dsimp only at HT HU HS HS2 ⊢
  have e0 := box1 hb
  have hz := lt_of_block hb
  clear hR hs hs' hb
  go_enter Tryz.func157, Tryz.ntmps157
  go_wp2_with fail
  refine wp_region_held_drew (S := fun X => X.cell? ⟨b, 0, none⟩ = some (.slice pa p.length pc) ∧ Grow w X) (by kernel_rfl) ⟨e0, (Grow.refl w).drew⟩ (fun hH => ?_)
  refine wpAnyH_take (i := 0) (v := .slice pa p.length pc) rfl (by kernel_rfl) (by kernel_rfl) (by kernel_rfl) (fun _ _ _ h => h) (Or.inl ⟨by rfl, ?_⟩) hH ?_
  · intro w9 hw9
    obtain ⟨d0, dg⟩ := hw9
    go_simp
  simp only [List.getElem_toArray, List.getElem_cons_zero, Act.put, List.setIfInBounds_toArray, List.set_cons_zero, List.set_cons_succ]
  refine wpAnyH_take (i := 1) (v := .slice ta tx.length tc) rfl (by kernel_rfl) (by kernel_rfl) (by kernel_rfl) (fun _ _ _ h => h) (Or.inl ⟨by rfl, ?_⟩) hH ?_
  · intro w9 hw9
    obtain ⟨d0, dg⟩ := hw9
    go_simp
  simp only [List.getElem_toArray, List.getElem_cons_succ, List.getElem_cons_zero, Act.put, List.setIfInBounds_toArray, List.set_cons_zero, List.set_cons_succ]
  refine wpAnyH_take (i := 3) (v := .slice pa p.length pc) rfl (by kernel_rfl) (by kernel_rfl) (by kernel_rfl) (fun _ _ _ h => h) (Or.inl ⟨by rfl, ?_⟩) hH ?_
  · intro w9 hw9
    obtain ⟨d0, dg⟩ := hw9
    go_simp
  simp only [List.getElem_toArray, List.getElem_cons_succ, List.getElem_cons_zero, Act.put, List.setIfInBounds_toArray, List.set_cons_zero, List.set_cons_succ]
  refine wpAnyH_take (i := 4) (v := .slice ua ux.length uc) rfl (by kernel_rfl) (by kernel_rfl) (by kernel_rfl) (fun _ _ _ h => h) (Or.inl ⟨by rfl, ?_⟩) hH ?_
  · intro w9 hw9
    obtain ⟨d0, dg⟩ := hw9
    go_simp
  simp only [List.getElem_toArray, List.getElem_cons_succ, List.getElem_cons_zero, Act.put, List.setIfInBounds_toArray, List.set_cons_zero, List.set_cons_succ]
  refine wpAnyH_ready (rs := [2]) (by kernel_rfl) (by simp) ?_
  refine AllReadyH.cons rfl (fun K hK => ?_) AllReadyH.nil
  go_simp
  refine size_any p tx _ _ _ (HP.out.grow hH.2) (HT.out.grow hH.2) _ ?_
  intro w8 hg8
  rw [HS.out]
  go_wp2_with fail
  refine hK.out _ _ ⟨hg8.cell hH.1, hH.2.trans hg8⟩ (fun hH2 => ?_)
  clear hK K hH
  have hH := hH2
  clear hH2
  refine wpAnyH_ready (rs := [5]) (by kernel_rfl) (by simp) ?_
  refine AllReadyH.cons rfl (fun K hK => ?_) AllReadyH.nil
  go_simp
  refine size_any p ux _ _ _ (HP.out.grow hH.2) (HU.out.grow hH.2) _ ?_
  intro w8 hg8
  rw [HS2.out]
  go_wp2_with fail
  refine hK.out _ _ ⟨hg8.cell hH.1, hH.2.trans hg8⟩ (fun hH2 => ?_)
  clear hK K hH
  have hH := hH2
  clear hH2
  refine wpAnyH_ready (rs := [6]) (by kernel_rfl) (by simp) ?_
  refine AllReadyH.cons rfl (fun K hK => ?_) AllReadyH.nil
  go_simp
  refine cmpI_any s s' _ _ ?_
  go_wp2_with fail
  refine hK.out _ _ hH (fun hH2 => ?_)
  clear hK K hH
  have hH := hH2
  clear hH2
  refine wpAnyH_take (i := 7) (v := .int .i64 (cmpI s s')) rfl (by kernel_rfl) (by kernel_rfl) (by kernel_rfl) (fun _ _ _ h => h) (Or.inl ⟨by rfl, ?_⟩) hH ?_
  · intro w9 hw9
    go_simp
  simp only [List.getElem_toArray, List.getElem_cons_succ, List.getElem_cons_zero, Act.put, List.setIfInBounds_toArray, List.set_cons_zero, List.set_cons_succ]
  refine wpAnyH_done (by kernel_rfl) ?_ _
  have HF := Lib.hid (HR.out _ hH.2)
  go_wp2_with fail
  exact HF.out

set_option maxHeartbeats 4000000 in
theorem minFunc_any (g : Nat) (cb : Array Value) (eg : Enters Tryz.prog g) (sz : List Ed → Int) (L : List Lst) (v : Value) (w : World) (hL : ListsAt w v L) (h0 : 0 < L.length) (hc : CmpE g cb w sz) (R : Ending → World → Prop)
    (hR : ∀ w' (j : Nat) t, Grow w w' → L[j]? = some t → FirstMin (L.map fun t => sz t.x) j (sz t.x) → R (.returned t.v) w') :
    Calls Tryz.prog 133 #[v, .func (.func g) #[] cb] w R := by
  have HL := Lib.hid hL
  have HR := Lib.hid hR
  have HC := Lib.hid hc
  obtain ⟨⟨a, c, rfl, h1, h2, _⟩, _⟩ := hL
  have hm : L.length ≤ 9223372036854775807 := by omega
  obtain ⟨⟨ta, tn, tc, tx⟩, ht⟩ : ∃ t, L[0]? = some t := ⟨_, List.getElem?_eq_getElem h0⟩
  obtain ⟨b, o, rfl, hb, e0⟩ := lists_at HL.out.at_ ht
  dsimp only [Lst.v] at e0
  simp only [Nat.add_zero] at e0
  have HT := Lib.hid ht
  have hl1 : ¬ (L.length : Int) < 1 := by omega
  have hl2 : (0 : Int) < (L.length : Int) := by omega
  unfold Enters at eg
  clear hR hc ht
  go_enter Tryz.func133, Tryz.ntmps133
  go_wp2_with fail
  go_loopw [5, 6] (fun m i wr => ∃ (k j : Nat) (t : Lst), 1 ≤ k ∧ k ≤ L.length ∧ i = .int .i64 k ∧ m = .slice t.a t.n t.c ∧ L[j]? = some t ∧ FirstMin ((L.map fun t => sz t.x).take k) j (sz t.x) ∧ Grow w wr) (fun _ i _ => L.length - (intOf i).toNat)
  case atStart => exact ⟨1, 0, ⟨ta, tn, tc, tx⟩, by omega, by omega, rfl, rfl, HT.out, FirstMin.one (by rw [List.getElem?_map, HT.out]; rfl), Grow.refl _⟩
  case round =>
    obtain ⟨k, j, ⟨ma, mn, mc, mx⟩, hk1, hk, rfl, rfl, hj, hfm, hg⟩ := hrel
    have HJ := Lib.hid hj
    have HFM := Lib.hid hfm
    have HG := Lib.hid hg
    clear hj hfm hg e0
    by_cases hlt : k < L.length
    · obtain ⟨⟨ua, un, uc, ux⟩, hu⟩ : ∃ t, L[k]? = some t := ⟨_, List.getElem?_eq_getElem hlt⟩
      obtain ⟨_, _, e, hb2, e1⟩ := lists_at (HL.out.grow HG.out).at_ hu
      cases e
      dsimp only [Lst.v] at e1
      have hk2 : (k : Int) < (L.length : Int) := by omega
      have HU := Lib.hid hu
      obtain ⟨h3, h4⟩ := HFM.out.step (s := sz ux) (by rw [List.getElem?_map, hu]; rfl)
      have HIU := Lib.hid ((HL.out.grow HG.out).ins _ (List.mem_of_getElem? hu))
      have HIM := Lib.hid ((HL.out.grow HG.out).ins _ (List.mem_of_getElem? HJ.out))
      have H3 := Lib.hid h3
      have H4 := Lib.hid h4
      have hci := cmpI_lt (x := sz ux) (y := sz mx)
      have HCC := Lib.hid (HC.out ⟨ua, un, uc, ux⟩ ⟨ma, mn, mc, mx⟩ wr HG.out HIU.out HIM.out)
      dsimp only at HCC
      generalize cmpI (sz ux) (sz mx) = q at hci HCC
      clear hu h3 h4
      by_cases hq : q < 0
      · have h5 := H3.out (hci.1 hq)
        have H5 := Lib.hid h5
        clear h5 hci
        go_wp2_with fail
        refine HCC.out _ ?_
        intro w1 hg1
        have e2 := hg1.cell e1
        have hb3 : b < w1.heap.size := Nat.lt_of_lt_of_le hb2 hg1.sz
        have HG2 := Lib.hid (HG.out.trans hg1)
        clear hg1 e1
        go_wp2_with fail
        go_roundw
        case rel => exact ⟨k + 1, k, ⟨ua, un, uc, ux⟩, by omega, by omega, by go_num, rfl, HU.out, H5.out, HG2.out⟩
        case measure => simp [intOf]; omega
      · have h5 := H4.out (fun h => hq (hci.2 h))
        have H5 := Lib.hid h5
        clear h5 hci
        go_wp2_with fail
        refine HCC.out _ ?_
        intro w1 hg1
        have HG2 := Lib.hid (HG.out.trans hg1)
        clear hg1 e1
        go_wp2_with fail
        go_roundw
        case rel => exact ⟨k + 1, j, ⟨ma, mn, mc, mx⟩, by omega, by omega, by go_num, rfl, HJ.out, H5.out, HG2.out⟩
        case measure => simp [intOf]; omega
    · have hkn : k = L.length := by omega
      have hfm := HFM.out
      rw [List.take_of_length_le (by rw [List.length_map]; omega)] at hfm
      have HF := Lib.hid (HR.out wr j ⟨ma, mn, mc, mx⟩ HG.out HJ.out hfm)
      clear hfm hkn
      go_wp2_with fail
      exact HF.out

set_option maxHeartbeats 4000000 in
theorem smallest_any (p : List Ln) (L : List Lst) (pv v : Value) (w : World) (hp : LinesAt w pv p) (hL : ListsAt w v L) (R : Ending → World → Prop)
    (hR0 : L = [] → ∀ w', Grow w w' → R (.returned (.tuple #[.slice none 0 0, .bool false])) w')
    (hR1 : ∀ w' (j : Nat) t, Grow w w' → L[j]? = some t → FirstMin (L.map fun t => sizeE p t.x) j (sizeE p t.x) → R (.returned (.tuple #[t.v, .bool true])) w') :
    Calls Tryz.prog 126 #[pv, v] w R := by
  have HP := Lib.hid hp
  have HL := Lib.hid hL
  have HR0 := Lib.hid hR0
  have HR1 := Lib.hid hR1
  obtain ⟨pa, pc, rfl, _⟩ := hp
  obtain ⟨⟨a, c, rfl, h1, h2, _⟩, _⟩ := hL
  have eg : Enters Tryz.prog 157 := enters_of Tryz.func157 (by kernel_rfl) rfl
  have EG := Lib.hid eg
  clear hR0 hR1 eg
  by_cases h0 : L.length = 0
  · have hn : L = [] := List.length_eq_zero_iff.1 h0
    subst hn
    have HF := Lib.hid (HR0.out rfl)
    go_enter Tryz.func126, Tryz.ntmps126
    go_wp2_with fail
    exact HF.out _ ((Grow.refl w).alloc _)
  · have t1 : ((L.length : Int) == 0) = false := by simpa using (by omega : ¬ (L.length : Int) = 0)
    go_enter Tryz.func126, Tryz.ntmps126
    go_wp2_with fail
    have hb := heap_alloc_new w (.cells #[.slice pa p.length pc] 22)
    have hg := (Grow.refl w).alloc (.cells #[.slice pa p.length pc] 22)
    generalize w.alloc (.cells #[.slice pa p.length pc] 22) = W at hb hg ⊢
    have HB := Lib.hid hb
    have HG := Lib.hid hg
    have hcmp : CmpE 157 #[.pointer (some ⟨w.heap.size, 0, none⟩)] W (sizeE p) := fun t u X hgX ht hu R hR =>
      smallF_any p t u _ _ X (HP.out.grow (HG.out.trans hgX)) ht hu (hgX.blk HB.out) R hR
    clear hb hg
    refine minFunc_any 157 _ EG.out (sizeE p) L _ _ (HL.out.grow HG.out) (by omega) hcmp _ ?_
    intro w1 j t hg1 ht hfm
    have HF := Lib.hid (HR1.out w1 j t (HG.out.trans hg1) ht hfm)
    clear hcmp hg1 ht hfm
    go_wp2_with fail
    exact HF.out
end Go.Proofs.YtbccbokjecdaaaaGreat

namespace Go.Proofs.YtbccbokjecdaaaaGreat
open Go.RowKit

theorem info_sle : (Tryz.prog.info? 31).map (fun i => (i.zero, i.size, i.bytes)) = some (some (.slice none 0 0), 1, 24) := by kernel_rfl
theorem encW_one (t : Lst) : ∀ u ∈ encW t, u.oneCell' = true := by
  intro u hu
  unfold encW at hu
  simp only [List.mem_cons, List.not_mem_nil, or_false] at hu
  subst hu
  rfl
/-- A list of one edit in a block of its own. -/
def EdBox (w : World) (t : Lst) : Prop := ∃ b e, t = ⟨some ⟨b, 0, none⟩, 1, 1, [e]⟩ ∧ w.heap[b]? = some (.cells (encE e).toArray 27 (0, 0))
theorem EdBox.grow {w w' : World} {t : Lst} (h : EdBox w t) (g : Grow w w') : EdBox w' t := by
  obtain ⟨b, e, ht, hb⟩ := h
  exact ⟨b, e, ht, g.blk hb⟩
theorem EdBox.kept {w w' : World} {t : Lst} {v : Value} {base n : Nat} {ys : List Value} (h : EdBox w t) (ho : w.ownsRow base 31 1 v n ys) (hg : w.grownBy w' v.ownBlock) : EdBox w' t := by
  obtain ⟨b, e, ht, hb⟩ := h
  refine ⟨b, e, ht, ?_⟩
  have hne : some b ≠ v.ownBlock := by
    intro he
    rcases ho.2 with ⟨hv, _⟩ | ⟨g, cap, cur, hv, _, hh, _⟩
    · subst hv
      simp [Value.ownBlock] at he
    · subst hv
      have hbg : b = g := by simpa [Value.ownBlock] using he
      subst hbg
      rw [hb] at hh
      simp at hh
  rw [hg.block b (lt_of_block hb) hne]
  exact hb
theorem EdBox.edits {w : World} {t : Lst} (h : EdBox w t) : EditsAt w t.v t.x := by
  obtain ⟨b, e, rfl, hb⟩ := h
  refine ⟨_, 1, rfl, Nat.le_refl _, by omega, .inr ⟨b, 0, rfl, lt_of_block hb, ?_⟩⟩
  intro j x hj i u hu
  cases j with
  | succ j => simp at hj
  | zero =>
    simp at hj
    subst hj
    rw [show 0 + 0 * 5 + i = i by omega, World.cell?]
    simp only [hb]
    simpa using hu
/-- One edit, as a list, by size. -/
def size1 (p : List Ln) (e : Ed) : Int := sizeE p [e]

set_option maxRecDepth 100000 in
set_option maxHeartbeats 8000000 in
theorem single_any (p : List Ln) (ts : List Tst) (kv : Value) (C : Nat → List Ln) (pv tv : Value) (w : World) (hp : LinesAt w pv p) (ht : TestsAt w tv ts) (hp8 : p.length ≤ 8) (hC : ∀ n, n < p.length → (C n).length ≤ 1000)
    (hcand : ∀ (n : Nat) (W : World), n < p.length → LinesAt W pv p → ∀ R' : Ending → World → Prop, (∀ W' v, Grow W W' → LinesAt W' v (C n) → R' (.returned v) W') → Calls Tryz.prog 121 #[pv, .int .i64 n, kv] W R') (R : Ending → World → Prop)
    (hR0 : everyN p ts C p.length = [] → ∀ w', Grow w w' → R (.returned (.tuple #[.slice none 0 0, .bool false])) w')
    (hR1 : ∀ w' v (j : Nat) e, Grow w w' → (everyN p ts C p.length)[j]? = some e → FirstMin ((everyN p ts C p.length).map (size1 p)) j (size1 p e) → EditsAt w' v [e] → R (.returned (.tuple #[v, .bool true])) w') :
    Calls Tryz.prog 88 #[pv, tv, kv] w R := by
  have HP := Lib.hid hp
  have HT := Lib.hid ht
  have hlen := everyN_len (ts := ts) hC p.length (Nat.le_refl _)
  have HC := Lib.hid hcand
  have HL := Lib.hid hC
  obtain ⟨E, hE⟩ : ∃ E, everyN p ts C p.length = E := ⟨_, rfl⟩
  rw [hE] at hR0 hR1 hlen
  have HE := Lib.hid hE
  have HR0 := Lib.hid hR0
  have HR1 := Lib.hid hR1
  obtain ⟨pa, pc, rfl, p1, p2, _⟩ := hp
  obtain ⟨⟨ta, tc, rfl, _⟩, _⟩ := ht
  clear hR0 hR1 hcand hC hE
  go_enter Tryz.func88, Tryz.ntmps88
  go_wp2_with fail
  refine every_any p ts kv C _ _ _ HP.out HT.out hp8 HL.out HC.out _ ?_
  intro w3 v3 hg3 hv3
  have hs3 := hv3.slc encE_len
  rw [HE.out] at hs3
  have HS3 := Lib.hid hs3
  obtain ⟨a3, c3, rfl, s1, s2, _⟩ := hs3
  have HG3 := Lib.hid hg3
  clear hg3 hv3
  go_wp2_with fail
  go_loopw [8, 10, 16] (fun out _ i wr => ∃ (k : Nat) (L : List Lst), k ≤ E.length ∧ i = .int .i64 k ∧ Grow w3 wr ∧ L.map Lst.x = (E.take k).map (fun e => [e]) ∧ (∀ t ∈ L, EdBox wr t) ∧ wr.ownsRow w3.heap.size 31 1 out L.length (L.flatMap encW)) (fun _ _ i _ => E.length - (intOf i).toNat)
  case atStart => exact ⟨0, [], Nat.zero_le _, rfl, Grow.refl _, rfl, by simp, World.ownsRow_nil _ _ _ _⟩
  case round =>
    obtain ⟨k, L, hk, rfl, hg, hm, hin, how⟩ := hrel
    have HG := Lib.hid hg
    have HOW := Lib.hid how
    have HM := Lib.hid hm
    have HIN := Lib.hid hin
    have hzw := hg.sz
    have hLk : L.length = (E.take k).length := by have := congrArg List.length hm; simpa using this
    rw [List.length_take] at hLk
    clear hg how hm hin
    by_cases hlt : k < E.length
    · obtain ⟨⟨t, o1, d1, a1', b1⟩, hx⟩ : ∃ x, E[k]? = some x := ⟨_, List.getElem?_eq_getElem hlt⟩
      obtain ⟨gb, o, rfl, hgb, y0, y1, y2, y3, y4⟩ := edits_at (HS3.out.grow HG.out) hx
      have HTK := Lib.hid (show (E.take (k + 1)).map (fun e => [e]) = (E.take k).map (fun e => [e]) ++ [[⟨t, ⟨o1, d1, a1', b1⟩⟩]] by rw [List.take_add_one, hx, List.map_append]; rfl)
      have HLB := Lib.hid (show L.length < 100000000000 by omega)
      have hgb1 := (Grow.refl wr).alloc (.cells #[.int .i64 t, .int .i64 o1, .int .i64 d1, .int .i64 a1', .int .i64 b1] 27)
      clear hx hLk
      go_wp2_with (at_builtin; refine wpList_app _ rfl (.tmp 20) (.tmp 23) 141 rfl w3.heap.size 31 Tryz.underlying141 info_sle rfl (by decide) (by decide) encW encW_len encW_one _ L rfl (((hgb1.alloc _).alloc _).owns HOW.out) _ (⟨some ⟨wr.heap.size + 1, 0, none⟩, 1, 1, [⟨t, ⟨o1, d1, a1', b1⟩⟩]⟩ : Lst) 1 rfl (newsG _ _ (by simp) (encW ⟨some ⟨wr.heap.size + 1, 0, none⟩, 1, 1, [⟨t, ⟨o1, d1, a1', b1⟩⟩]⟩) _) HLB.out (by simp; omega) ?_; intro out2 w4 hown2 hgr2)
      have hgr4 := grown_below HOW.out hgr2 (Nat.le_refl _) (by simp; omega) (HG.out.trans ((hgb1.alloc _).alloc _))
      have hown3 := ((hgb1.alloc (.cells #[.int .i64 t, .int .i64 o1, .int .i64 d1, .int .i64 a1', .int .i64 b1] 27)).alloc (.cells #[.slice (some ⟨wr.heap.size + 1, 0, none⟩) 1 1] 31)).owns HOW.out
      have hnew : EdBox w4 ⟨some ⟨wr.heap.size + 1, 0, none⟩, 1, 1, [⟨t, ⟨o1, d1, a1', b1⟩⟩]⟩ := by
        refine EdBox.kept ⟨_, ⟨t, ⟨o1, d1, a1', b1⟩⟩, rfl, ?_⟩ hown3 hgr2
        exact ((Grow.refl _).alloc _).blk (heap_two1 wr _ _)
      have hold : ∀ t ∈ L, EdBox w4 t := fun t ht => EdBox.kept ((HIN.out t ht).grow ((hgb1.alloc _).alloc _)) hown3 hgr2
      have HG4 := Lib.hid (show Grow w3 w4 from hgr4)
      have HO2 := Lib.hid hown2
      have HNEW := Lib.hid hnew
      have HOLD := Lib.hid hold
      clear hown2 hgr2 hgr4 hnew hold hown3
      go_roundw
      case rel => exact ⟨k + 1, L ++ [⟨some ⟨wr.heap.size + 1, 0, none⟩, 1, 1, [⟨t, ⟨o1, d1, a1', b1⟩⟩]⟩], by omega, by go_num, HG4.out, by rw [HTK.out, List.map_append, HM.out]; rfl, by
        intro u hu
        rcases List.mem_append.1 hu with hu | hu
        · exact HOLD.out u hu
        · simp at hu; subst hu; exact HNEW.out, HO2.out⟩
      case measure => simp [intOf]; omega
    · have hkn : k = E.length := by omega
      have hm := HM.out
      rw [hkn, List.take_length] at hm
      have HM2 := Lib.hid hm
      have hs := slc_of_owns encW_len HOW.out
      have HLS := Lib.hid (ListsAt.mk hs fun t ht => (HIN.out t ht).edits)
      obtain ⟨oa, oc, rfl, _⟩ := hs
      clear hm hkn hLk
      go_wp2_with fail
      refine smallest_any p L _ _ _ (HP.out.grow (HG3.out.trans HG.out)) HLS.out _ ?_ ?_
      · intro h0 w5 hg5
        have hE0 : E = [] := by
          have := HM2.out
          rw [h0] at this
          have := congrArg List.length this
          simp at this
          exact List.length_eq_zero_iff.1 this.symm
        have HF := Lib.hid (HR0.out hE0 w5 (HG3.out.trans (HG.out.trans hg5)))
        clear hg5 h0 hE0
        go_wp2_with fail
        exact HF.out
      · intro w5 j u hg5 hu hfm
        have hEu : ∃ e, E[j]? = some e ∧ u.x = [e] := by
          have h1 : (L.map Lst.x)[j]? = some u.x := by rw [List.getElem?_map, hu]; rfl
          rw [HM2.out, List.getElem?_map] at h1
          cases hj : E[j]? with
          | none => rw [hj] at h1; cases h1
          | some e => rw [hj] at h1; exact ⟨e, rfl, (Option.some.inj h1).symm⟩
        obtain ⟨e, he, hue⟩ := hEu
        have hmap : (L.map fun t => sizeE p t.x) = E.map (size1 p) := by
          have := congrArg (List.map (sizeE p)) HM2.out
          rw [List.map_map, List.map_map] at this
          exact this
        rw [hmap, hue] at hfm
        have hI := (HIN.out u (List.mem_of_getElem? hu)).edits
        rw [hue] at hI
        have HF := Lib.hid (HR1.out w5 u.v j e (HG3.out.trans (HG.out.trans hg5)) he hfm (hI.grow hg5))
        obtain ⟨ua, un, uc, ux⟩ := u
        dsimp only [Lst.v] at HF ⊢
        clear hg5 hu hfm he hue hmap hI
        go_wp2_with fail
        exact HF.out

/-- What Single answers. -/
def SnglP (p : List Ln) (ts : List Tst) (kind : Int) (e : Ed) (ok : Bool) : Prop :=
  (ok = false ∧ e = ⟨0, ⟨0, 0, 0, 0⟩⟩ ∧ (sgtE p ts kind ≠ 0 ∨ everyN p ts (candAt p kind) p.length = [])) ∨
  (ok = true ∧ sgtE p ts kind = 0 ∧ ∃ j, (everyN p ts (candAt p kind) p.length)[j]? = some e ∧ FirstMin ((everyN p ts (candAt p kind) p.length).map (size1 p)) j (size1 p e))
theorem SnglP.uniq {p : List Ln} {ts : List Tst} {kind : Int} {e e' : Ed} {ok ok' : Bool} (h : SnglP p ts kind e ok) (h' : SnglP p ts kind e' ok') : e = e' ∧ ok = ok' := by
  rcases h with ⟨rfl, rfl, h1⟩ | ⟨rfl, h1, j, h2, h3⟩ <;> rcases h' with ⟨rfl, rfl, g1⟩ | ⟨rfl, g1, j', g2, g3⟩
  · exact ⟨rfl, rfl⟩
  · rcases h1 with h1 | h1
    · exact absurd g1 h1
    · rw [h1] at g2; simp at g2
  · rcases g1 with g1 | g1
    · exact absurd h1 g1
    · rw [g1] at h2; simp at h2
  · obtain ⟨rfl, _⟩ := h3.uniq g3
    rw [h2] at g2
    exact ⟨Option.some.inj g2, rfl⟩
theorem below_set5 {B : Nat} {a w : World} {g : Nat} (h : Below B a w) (hg : B ≤ g) (o0 o1 o2 o3 o4 : Nat) (v0 v1 v2 v3 v4 : Value) : Below B a (((((w.setCell ⟨g, o0, none⟩ v0).setCell ⟨g, o1, none⟩ v1).setCell ⟨g, o2, none⟩ v2).setCell ⟨g, o3, none⟩ v3).setCell ⟨g, o4, none⟩ v4) :=
  Below.setCell (Below.setCell (Below.setCell (Below.setCell (Below.setCell h hg _) hg _) hg _) hg _) hg _

set_option maxRecDepth 100000 in
set_option maxHeartbeats 16000000 in
theorem Single_any (p : List Ln) (ts : List Tst) (kind : Int) (pv tv : Value) (w : World) (hp : LinesAt w pv p) (ht : TestsAt w tv ts) (R : Ending → World → Prop)
    (hR : ∀ w' e ok, Grow w w' → SnglP p ts kind e ok → R (.returned (.tuple #[.agg #[.int .i64 e.at_, .int .i64 e.l.op, .int .i64 e.l.d, .int .i64 e.l.a, .int .i64 e.l.b], .bool ok, .int .i64 (sgtE p ts kind)])) w') :
    Calls Tryz.prog 40 #[pv, tv, .int .i64 kind] w R := by
  have HP := Lib.hid hp
  have HT := Lib.hid ht
  have HR := Lib.hid hR
  obtain ⟨e, he⟩ : ∃ e, sgtE p ts kind = e := ⟨_, rfl⟩
  have hok := fun h : e = 0 => sgtE_ok.1 (he.trans h)
  rw [he] at HR
  have HE := Lib.hid he
  obtain ⟨pa, pc, rfl, r1, r2, _⟩ := hp
  obtain ⟨⟨ta, tc, rfl, _⟩, _⟩ := ht
  have HB := Lib.hid (heap_alloc_new w (.cells #[.int .i64 0, .int .i64 0, .int .i64 0, .int .i64 0, .int .i64 0] 27))
  have HG := Lib.hid ((Grow.refl w).alloc (.cells #[.int .i64 0, .int .i64 0, .int .i64 0, .int .i64 0, .int .i64 0] 27))
  clear hR he
  by_cases z1 : e = 0
  rotate_left
  · have HS := Lib.hid (show SnglP p ts kind ⟨0, ⟨0, 0, 0, 0⟩⟩ false from .inl ⟨rfl, rfl, .inl (by rw [HE.out]; exact z1)⟩)
    have t1 : (e != 0) = true := by simpa using z1
    clear hok z1
    go_enter Tryz.func40, Tryz.ntmps40
    go_wp2_with fail
    refine kinded_any p ts kind _ _ _ (HP.out.grow HG.out) (HT.out.grow HG.out) _ ?_
    intro w1 hg1
    rw [HE.out]
    have hb := hg1.blk HB.out
    obtain ⟨c0, c1, c2, c3, c4⟩ := box5 hb
    have z0 := frz hb 0
    have z1 := frz hb 1
    have z2 := frz hb 2
    have z3 := frz hb 3
    have z4 := frz hb 4
    have hz := lt_of_block hb
    have HG1 := Lib.hid (HG.out.trans hg1)
    clear hg1 hb
    go_wp2_with fail
    refine bodyPost_ret (v := .tuple #[.agg #[.int .i64 0, .int .i64 0, .int .i64 0, .int .i64 0, .int .i64 0], .bool false, .int .i64 e]) (by simp [results, Tryz.results40, go_sem, c0, c1, c2, c3, c4]) rfl (HR.out _ ⟨0, ⟨0, 0, 0, 0⟩⟩ false (below_set5 HG1.out (Nat.le_refl _) 0 1 2 3 4 _ _ _ _ _) HS.out)
  obtain ⟨⟨hv, hvt⟩, ⟨k0, k2⟩, _⟩ := hok z1
  subst z1
  have hp8 := (valP_ok.1 hv).1
  have HV := Lib.hid hv
  have HCL := Lib.hid (candAt_len hv k0 k2)
  clear hok hv hvt
  have hk : kind = 0 ∨ kind = 1 ∨ kind = 2 := by omega
  clear k0 k2
  rcases hk with rfl | rfl | rfl
  · skip
    go_enter Tryz.func40, Tryz.ntmps40
    go_wp2_with fail
    refine kinded_any p ts 0 _ _ _ (HP.out.grow HG.out) (HT.out.grow HG.out) _ ?_
    intro w1 hg1
    rw [HE.out]
    have HB1 := Lib.hid (hg1.blk HB.out)
    have HG1 := Lib.hid (HG.out.trans hg1)
    clear hg1
    go_wp2_with fail
    refine sources_any _ _ ?_
    go_wp2_with fail
    refine single_any p ts (.iface 137 (.agg #[])) (candAt p 0) _ _ _ (HP.out.grow (HG1.out.alloc _)) (HT.out.grow (HG1.out.alloc _)) hp8 HCL.out (fun n W hn hW R' hR' => cand0_at p _ n W HV.out hn hW R' hR') _ ?_ ?_
    · intro hE w3 hg3
      have HS := Lib.hid (show SnglP p ts 0 ⟨0, ⟨0, 0, 0, 0⟩⟩ false from .inl ⟨rfl, rfl, .inr hE⟩)
      have hb := (((Grow.refl w1).alloc _).trans hg3).blk HB1.out
      obtain ⟨c0, c1, c2, c3, c4⟩ := box5 hb
      have z0 := frz hb 0
      have z1 := frz hb 1
      have z2 := frz hb 2
      have z3 := frz hb 3
      have z4 := frz hb 4
      have hz := lt_of_block hb
      have HG3 := Lib.hid ((HG1.out.alloc _).trans hg3)
      clear hg3 hb hE
      go_wp2_with fail
      refine bodyPost_ret (v := .tuple #[.agg #[.int .i64 0, .int .i64 0, .int .i64 0, .int .i64 0, .int .i64 0], .bool false, .int .i64 0]) (by simp [results, Tryz.results40, go_sem, c0, c1, c2, c3, c4]) rfl (HR.out _ ⟨0, ⟨0, 0, 0, 0⟩⟩ false (below_set5 HG3.out (Nat.le_refl _) 0 1 2 3 4 _ _ _ _ _) HS.out)
    · intro w3 v3 j ed hg3 hj hfm hv3
      have HS := Lib.hid (show SnglP p ts 0 ed true from .inr ⟨rfl, HE.out, j, hj, hfm⟩)
      obtain ⟨t, o1, d1, a1, b1⟩ := ed
      have hv4 := hv3
      obtain ⟨a3, cq, rfl, s1, s2, _⟩ := hv4
      obtain ⟨gb, o, rfl, hgb, y0, y1, y2, y3, y4⟩ := edits_at (k := 0) hv3 rfl
      simp only [Nat.zero_mul, Nat.add_zero] at y0 y1 y2 y3 y4
      dsimp only [List.length] at s1 ⊢
      have hb := (((Grow.refl w1).alloc _).trans hg3).blk HB1.out
      obtain ⟨c0, c1, c2, c3, c4⟩ := box5 hb
      have z0 := frz hb 0
      have z1 := frz hb 1
      have z2 := frz hb 2
      have z3 := frz hb 3
      have z4 := frz hb 4
      have hz := lt_of_block hb
      have HG3 := Lib.hid ((HG1.out.alloc _).trans hg3)
      clear hg3 hb hj hfm hv3
      go_wp2_with fail
      refine bodyPost_ret (v := .tuple #[.agg #[.int .i64 t, .int .i64 o1, .int .i64 d1, .int .i64 a1, .int .i64 b1], .bool true, .int .i64 0]) (by simp [results, Tryz.results40, go_sem, c0, c1, c2, c3, c4]) rfl (HR.out _ ⟨t, ⟨o1, d1, a1, b1⟩⟩ true (below_set5 HG3.out (Nat.le_refl _) 0 1 2 3 4 _ _ _ _ _) HS.out)
  · skip
    go_enter Tryz.func40, Tryz.ntmps40
    go_wp2_with fail
    refine kinded_any p ts 1 _ _ _ (HP.out.grow HG.out) (HT.out.grow HG.out) _ ?_
    intro w1 hg1
    rw [HE.out]
    have HB1 := Lib.hid (hg1.blk HB.out)
    have HG1 := Lib.hid (HG.out.trans hg1)
    clear hg1
    go_wp2_with fail
    refine sources_any _ _ ?_
    go_wp2_with fail
    refine single_any p ts (.iface 138 (.agg #[])) (candAt p 1) _ _ _ (HP.out.grow (HG1.out.alloc _)) (HT.out.grow (HG1.out.alloc _)) hp8 HCL.out (fun n W hn hW R' hR' => cand1_at p _ n W HV.out hn hW R' hR') _ ?_ ?_
    · intro hE w3 hg3
      have HS := Lib.hid (show SnglP p ts 1 ⟨0, ⟨0, 0, 0, 0⟩⟩ false from .inl ⟨rfl, rfl, .inr hE⟩)
      have hb := (((Grow.refl w1).alloc _).trans hg3).blk HB1.out
      obtain ⟨c0, c1, c2, c3, c4⟩ := box5 hb
      have z0 := frz hb 0
      have z1 := frz hb 1
      have z2 := frz hb 2
      have z3 := frz hb 3
      have z4 := frz hb 4
      have hz := lt_of_block hb
      have HG3 := Lib.hid ((HG1.out.alloc _).trans hg3)
      clear hg3 hb hE
      go_wp2_with fail
      refine bodyPost_ret (v := .tuple #[.agg #[.int .i64 0, .int .i64 0, .int .i64 0, .int .i64 0, .int .i64 0], .bool false, .int .i64 0]) (by simp [results, Tryz.results40, go_sem, c0, c1, c2, c3, c4]) rfl (HR.out _ ⟨0, ⟨0, 0, 0, 0⟩⟩ false (below_set5 HG3.out (Nat.le_refl _) 0 1 2 3 4 _ _ _ _ _) HS.out)
    · intro w3 v3 j ed hg3 hj hfm hv3
      have HS := Lib.hid (show SnglP p ts 1 ed true from .inr ⟨rfl, HE.out, j, hj, hfm⟩)
      obtain ⟨t, o1, d1, a1, b1⟩ := ed
      have hv4 := hv3
      obtain ⟨a3, cq, rfl, s1, s2, _⟩ := hv4
      obtain ⟨gb, o, rfl, hgb, y0, y1, y2, y3, y4⟩ := edits_at (k := 0) hv3 rfl
      simp only [Nat.zero_mul, Nat.add_zero] at y0 y1 y2 y3 y4
      dsimp only [List.length] at s1 ⊢
      have hb := (((Grow.refl w1).alloc _).trans hg3).blk HB1.out
      obtain ⟨c0, c1, c2, c3, c4⟩ := box5 hb
      have z0 := frz hb 0
      have z1 := frz hb 1
      have z2 := frz hb 2
      have z3 := frz hb 3
      have z4 := frz hb 4
      have hz := lt_of_block hb
      have HG3 := Lib.hid ((HG1.out.alloc _).trans hg3)
      clear hg3 hb hj hfm hv3
      go_wp2_with fail
      refine bodyPost_ret (v := .tuple #[.agg #[.int .i64 t, .int .i64 o1, .int .i64 d1, .int .i64 a1, .int .i64 b1], .bool true, .int .i64 0]) (by simp [results, Tryz.results40, go_sem, c0, c1, c2, c3, c4]) rfl (HR.out _ ⟨t, ⟨o1, d1, a1, b1⟩⟩ true (below_set5 HG3.out (Nat.le_refl _) 0 1 2 3 4 _ _ _ _ _) HS.out)
  · skip
    go_enter Tryz.func40, Tryz.ntmps40
    go_wp2_with fail
    refine kinded_any p ts 2 _ _ _ (HP.out.grow HG.out) (HT.out.grow HG.out) _ ?_
    intro w1 hg1
    rw [HE.out]
    have HB1 := Lib.hid (hg1.blk HB.out)
    have HG1 := Lib.hid (HG.out.trans hg1)
    clear hg1
    go_wp2_with fail
    refine sources_any _ _ ?_
    go_wp2_with fail
    refine single_any p ts (.iface 139 (.agg #[])) (candAt p 2) _ _ _ (HP.out.grow (HG1.out.alloc _)) (HT.out.grow (HG1.out.alloc _)) hp8 HCL.out (fun n W hn hW R' hR' => cand2_at p _ n W HV.out hn hW R' hR') _ ?_ ?_
    · intro hE w3 hg3
      have HS := Lib.hid (show SnglP p ts 2 ⟨0, ⟨0, 0, 0, 0⟩⟩ false from .inl ⟨rfl, rfl, .inr hE⟩)
      have hb := (((Grow.refl w1).alloc _).trans hg3).blk HB1.out
      obtain ⟨c0, c1, c2, c3, c4⟩ := box5 hb
      have z0 := frz hb 0
      have z1 := frz hb 1
      have z2 := frz hb 2
      have z3 := frz hb 3
      have z4 := frz hb 4
      have hz := lt_of_block hb
      have HG3 := Lib.hid ((HG1.out.alloc _).trans hg3)
      clear hg3 hb hE
      go_wp2_with fail
      refine bodyPost_ret (v := .tuple #[.agg #[.int .i64 0, .int .i64 0, .int .i64 0, .int .i64 0, .int .i64 0], .bool false, .int .i64 0]) (by simp [results, Tryz.results40, go_sem, c0, c1, c2, c3, c4]) rfl (HR.out _ ⟨0, ⟨0, 0, 0, 0⟩⟩ false (below_set5 HG3.out (Nat.le_refl _) 0 1 2 3 4 _ _ _ _ _) HS.out)
    · intro w3 v3 j ed hg3 hj hfm hv3
      have HS := Lib.hid (show SnglP p ts 2 ed true from .inr ⟨rfl, HE.out, j, hj, hfm⟩)
      obtain ⟨t, o1, d1, a1, b1⟩ := ed
      have hv4 := hv3
      obtain ⟨a3, cq, rfl, s1, s2, _⟩ := hv4
      obtain ⟨gb, o, rfl, hgb, y0, y1, y2, y3, y4⟩ := edits_at (k := 0) hv3 rfl
      simp only [Nat.zero_mul, Nat.add_zero] at y0 y1 y2 y3 y4
      dsimp only [List.length] at s1 ⊢
      have hb := (((Grow.refl w1).alloc _).trans hg3).blk HB1.out
      obtain ⟨c0, c1, c2, c3, c4⟩ := box5 hb
      have z0 := frz hb 0
      have z1 := frz hb 1
      have z2 := frz hb 2
      have z3 := frz hb 3
      have z4 := frz hb 4
      have hz := lt_of_block hb
      have HG3 := Lib.hid ((HG1.out.alloc _).trans hg3)
      clear hg3 hb hj hfm hv3
      go_wp2_with fail
      refine bodyPost_ret (v := .tuple #[.agg #[.int .i64 t, .int .i64 o1, .int .i64 d1, .int .i64 a1, .int .i64 b1], .bool true, .int .i64 0]) (by simp [results, Tryz.results40, go_sem, c0, c1, c2, c3, c4]) rfl (HR.out _ ⟨t, ⟨o1, d1, a1, b1⟩⟩ true (below_set5 HG3.out (Nat.le_refl _) 0 1 2 3 4 _ _ _ _ _) HS.out)
end Go.Proofs.YtbccbokjecdaaaaGreat

namespace Go.Proofs.YtbccbokjecdaaaaGreat
open Go.RowKit

def sanP : List Ln := [⟨1, 0, 3, 0⟩, ⟨3, 0, 0, 0⟩]
def sanT (v : Value) : List Tst := [⟨v, [0, 0, 0, 0], 0, 8⟩]
theorem san_tmpl : (if vL 1 0 3 0 then tmpl ⟨1, 0, 3, 0⟩ else []) = [⟨0, 0, 0, 0⟩, ⟨1, 0, 2, 0⟩, ⟨1, 0, 4, 0⟩, ⟨1, 1, 3, 0⟩, ⟨1, 2, 3, 0⟩, ⟨1, 3, 3, 0⟩] ∧ errB (vL 1 0 3 0) = 0 := by decide +kernel
theorem san_fixB (v u : Value) (a : Int) (x : Ln) : fixB sanP (sanT v) a x = fixB sanP (sanT u) a x := by
  unfold fixB chkX goodM sanT
  rfl
theorem san_every (v : Value) (C : Nat → List Ln) (k : Nat) : everyN sanP (sanT v) C k = everyN sanP (sanT (.slice none 0 0)) C k := by
  have h : ∀ a, fixB sanP (sanT v) a = fixB sanP (sanT (.slice none 0 0)) a := fun a => funext fun x => san_fixB v _ a x
  unfold everyN fixE
  simp only [h]
theorem san_every0 : everyN sanP (sanT (.slice none 0 0)) (candAt sanP 0) sanP.length = [⟨0, ⟨1, 0, 4, 0⟩⟩] := by decide +kernel
theorem san_size : size1 sanP ⟨0, ⟨1, 0, 4, 0⟩⟩ = 1 := by decide +kernel
theorem san_sgt0 : sgtE sanP (sanT (.slice none 0 0)) 0 = 0 := by decide +kernel
theorem san_sgt (v : Value) : sgtE sanP (sanT v) 0 = 0 := san_sgt0
theorem san_sngl (v : Value) : SnglP sanP (sanT v) 0 ⟨0, ⟨1, 0, 4, 0⟩⟩ true := by
  refine .inr ⟨rfl, san_sgt v, 0, ?_, ?_⟩
  · rw [san_every, san_every0]; rfl
  · rw [san_every, san_every0]
    have := FirstMin.one (S := [size1 sanP ⟨0, ⟨1, 0, 4, 0⟩⟩]) rfl
    exact this
theorem two_lit (w : World) (T : TypeId) : LinesAt (w.alloc (.cells #[.int .i64 1, .int .i64 0, .int .i64 3, .int .i64 0, .int .i64 3, .int .i64 0, .int .i64 0, .int .i64 0] T)) (.slice (some ⟨w.heap.size, 0, none⟩) 2 2) sanP := by
  refine ⟨_, 2, rfl, by simp [sanP], by decide, .inr ⟨w.heap.size, 0, rfl, by simp, ?_⟩⟩
  intro j x hj i u hu
  have hi : i < 4 := by
    have := (List.getElem?_eq_some_iff.1 hu).1
    simpa [encL] using this
  match j, hj with
  | 0, hj =>
    simp [sanP] at hj; subst hj
    match i, hi with
    | 0, _ => simp [encL] at hu; subst hu; simp
    | 1, _ => simp [encL] at hu; subst hu; simp
    | 2, _ => simp [encL] at hu; subst hu; simp
    | 3, _ => simp [encL] at hu; subst hu; simp
  | 1, hj =>
    simp [sanP] at hj; subst hj
    match i, hi with
    | 0, _ => simp [encL] at hu; subst hu; simp
    | 1, _ => simp [encL] at hu; subst hu; simp
    | 2, _ => simp [encL] at hu; subst hu; simp
    | 3, _ => simp [encL] at hu; subst hu; simp
theorem four_lit (w : World) (T : TypeId) : IntsAt (w.alloc (.cells #[.int .i64 0, .int .i64 0, .int .i64 0, .int .i64 0] T)) (.slice (some ⟨w.heap.size, 0, none⟩) 4 4) [0, 0, 0, 0] := by
  refine ⟨_, 4, rfl, by simp, by decide, .inr ⟨w.heap.size, 0, rfl, by simp, ?_⟩⟩
  intro j x hj i u hu
  have hi : i = 0 := by
    have := (List.getElem?_eq_some_iff.1 hu).1
    simp [encI] at this; exact this
  subst hi
  simp [encI] at hu
  subst hu
  match j, hj with
  | 0, hj => simp at hj; subst hj; simp
  | 1, hj => simp at hj; subst hj; simp
  | 2, hj => simp at hj; subst hj; simp
  | 3, hj => simp at hj; subst hj; simp
set_option maxRecDepth 100000 in
set_option maxHeartbeats 4000000 in
theorem ssane_any (w : World) (R : Ending → World → Prop) (hR : ∀ w', Grow w w' → R (.returned (.bool true)) w') :
    Calls Tryz.prog 39 #[] w R := by
  have HR := Lib.hid hR
  clear hR
  go_enter Tryz.func39, Tryz.ntmps39
  go_wp2_with fail
  refine Templates_any 1 0 3 0 _ _ ?_
  intro w1 v1 hg1 hv1
  rw [san_tmpl.1] at hv1
  rw [san_tmpl.2]
  have HV1 := Lib.hid hv1
  obtain ⟨a1, c1, rfl, q1, q2, _⟩ := hv1
  have HG1 := Lib.hid hg1
  clear hg1
  simp only [List.length_cons, List.length_nil, Nat.zero_add, Nat.reduceAdd] at q1 HV1 ⊢
  go_wp2_with fail
  have hl2 := two_lit w1 25
  have hgA := (Grow.refl w1).alloc (.cells #[.int .i64 1, .int .i64 0, .int .i64 3, .int .i64 0, .int .i64 3, .int .i64 0, .int .i64 0, .int .i64 0] 25)
  have hszA : (w1.alloc (.cells #[.int .i64 1, .int .i64 0, .int .i64 3, .int .i64 0, .int .i64 3, .int .i64 0, .int .i64 0, .int .i64 0] 25)).heap.size = w1.heap.size + 1 := by simp
  generalize w1.alloc (.cells #[.int .i64 1, .int .i64 0, .int .i64 3, .int .i64 0, .int .i64 3, .int .i64 0, .int .i64 0, .int .i64 0] 25) = W1 at hl2 hgA hszA ⊢
  have h4 := four_lit W1 3
  have hgB := (Grow.refl W1).alloc (.cells #[.int .i64 0, .int .i64 0, .int .i64 0, .int .i64 0] 3)
  have hszB : (W1.alloc (.cells #[.int .i64 0, .int .i64 0, .int .i64 0, .int .i64 0] 3)).heap.size = w1.heap.size + 2 := by simp; omega
  rw [hszA] at h4
  generalize W1.alloc (.cells #[.int .i64 0, .int .i64 0, .int .i64 0, .int .i64 0] 3) = W2 at h4 hgB hszB ⊢
  have ht := tests_lit W2 ⟨.slice (some ⟨w1.heap.size + 1, 0, none⟩) 4 4, [0, 0, 0, 0], 0, 8⟩ 50 h4
  have hgC := (Grow.refl W2).alloc (.cells #[.slice (some ⟨w1.heap.size + 1, 0, none⟩) 4 4, .int .i64 0, .int .i64 8] 50)
  rw [hszB] at ht
  dsimp only at ht
  generalize W2.alloc (.cells #[.slice (some ⟨w1.heap.size + 1, 0, none⟩) 4 4, .int .i64 0, .int .i64 8] 50) = W3 at ht hgC ⊢
  have HGC := Lib.hid (hgA.trans (hgB.trans hgC))
  refine Single_any sanP (sanT (.slice (some ⟨w1.heap.size + 1, 0, none⟩) 4 4)) 0 _ _ _ (hl2.grow (hgB.trans hgC)) ht _ ?_
  intro w2 e ok hg2 hs
  obtain ⟨rfl, rfl⟩ := hs.uniq (san_sngl _)
  rw [san_sgt]
  obtain ⟨gb, o, rfl, hgb, y0, y1, y2, y3⟩ := lines_at (k := 0) (HV1.out.grow (HGC.out.trans hg2)) rfl
  simp only [Nat.zero_mul, Nat.add_zero] at y0 y1 y2 y3
  have HF := Lib.hid (fun X (h : Grow w2 X) => HR.out X (HG1.out.trans (HGC.out.trans (hg2.trans h))))
  clear hl2 hgA hszA h4 hgB hszB ht hgC hg2 hs
  dsimp only
  go_wp2_with fail
  exact HF.out _ ((Grow.refl _).alloc _)
end Go.Proofs.YtbccbokjecdaaaaGreat
