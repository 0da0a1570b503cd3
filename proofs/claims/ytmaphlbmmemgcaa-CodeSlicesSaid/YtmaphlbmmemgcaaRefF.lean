/- The walks of the document's answer to layer 1: the state at the end, the lines that are done, the state before a line. -/
import Derived.Test.YtmaphlbmmemgcaaRefE
namespace Go.Proofs.Ytmaphlbmmemgcaa
open Go.RowKit

/-- The steps of a trace, as they can be read. -/
def StepsR (w : World) (x : Value) (vs : List (Nat × St)) : Prop :=
  ∃ ps : List (Nat × SV), SlcAt 2 encP w x ps ∧ ps.length = vs.length ∧ ∀ (j : Nat) (p : Nat × SV) (v : Nat × St), ps[j]? = some p → vs[j]? = some v → p.1 = v.1 ∧ IntsAt w (sv p.2) v.2.toL
theorem StepsAt.read {w : World} {base : Nat} {x : Value} {vs : List (Nat × St)} (h : StepsAt w base x vs) : StepsR w x vs := by
  obtain ⟨ps, h1, h2, h3⟩ := h
  exact ⟨ps, slc_of_owns encP_len h1, h2, fun j p v hp hv => ⟨(h3 j p v hp hv).1, slc_of_owns encI_len (xs := v.2.toL) (h3 j p v hp hv).2⟩⟩
theorem StepsR.grow {w w' : World} {x : Value} {vs : List (Nat × St)} (h : StepsR w x vs) (g : Grow w w') : StepsR w' x vs :=
  let ⟨ps, h1, h2, h3⟩ := h
  ⟨ps, h1.grow g, h2, fun j p v hp hv => ⟨(h3 j p v hp hv).1, (h3 j p v hp hv).2.grow g⟩⟩
/-- One step, read. -/
theorem StepsR.at {w : World} {x : Value} {vs : List (Nat × St)} (h : StepsR w x vs) : ∃ a c, x = .slice a vs.length c ∧ vs.length ≤ 9223372036854775807 ∧ ∀ (j : Nat) (v : Nat × St), vs[j]? = some v →
    ∃ b o a' c', a = some ⟨b, o, none⟩ ∧ w.cell? ⟨b, o + j * 2, none⟩ = some (.int .i64 v.1) ∧ w.cell? ⟨b, o + j * 2 + 1, none⟩ = some (.slice a' 4 c') ∧ IntsAt w (.slice a' 4 c') v.2.toL := by
  obtain ⟨ps, ⟨a, c, rfl, h1, h2, h3⟩, hl, h4⟩ := h
  rw [← hl]
  refine ⟨a, c, rfl, by omega, fun j v hv => ?_⟩
  have hj : j < ps.length := by rw [hl]; exact (List.getElem?_eq_some_iff.1 hv).1
  obtain ⟨p, hp⟩ : ∃ p, ps[j]? = some p := ⟨_, List.getElem?_eq_getElem hj⟩
  obtain ⟨e1, e2⟩ := h4 j p v hp hv
  obtain ⟨b, o, rfl, _, hc⟩ := h3.resolve_left (by intro h; rw [h.1] at hj; simp at hj)
  have k0 := hc j p hp 0 _ rfl
  have k1 := hc j p hp 1 _ rfl
  obtain ⟨a', c', e3, _, _, _⟩ := id e2
  rw [e3] at k1 e2
  rw [e1] at k0
  exact ⟨b, o, a', c', rfl, k0, k1, e2⟩

set_option maxHeartbeats 1000000 in
theorem rtrace0_any (p : List Ln) (s : List Int) (v u : Value) (w : World) (hp : LinesAt w v p) (hs : IntsAt w u s) (h : chk p s = 0) (R : Ending → World → Prop)
    (hR : ∀ w' x y, Grow w w' → StepsR w' x (visits p s) → IntsAt w' y (runM p s) → R (.returned (.tuple #[x, y])) w') :
    Calls Try.prog 68 #[v, u, .slice none 0 0, .slice none 0 0] w R := by
  obtain ⟨h1, h2⟩ := chk_ok.1 h
  obtain ⟨h3, h4⟩ := valP_ok.1 h1
  obtain ⟨q, rfl, hq⟩ := St.of_valS h2
  refine rtrace_any p q [] [] v u _ _ w hp hs (SlcAt.nil _ _ _) (SlcAt.nil _ _ _) rfl h3 h4 hq (by simp) R ?_
  intro w' x y hg hst ho
  exact hR w' x y hg hst.read (ho.slc encI_len)

set_option maxHeartbeats 1000000 in
theorem rRun_any (p : List Ln) (s : List Int) (v u : Value) (w : World) (hp : LinesAt w v p) (hs : IntsAt w u s) (R : Ending → World → Prop)
    (hR : ∀ w' x, Grow w w' → IntsAt w' x (ifOK (chk p s) (runM p s)) → R (.returned (.tuple #[x, .int .i64 (chk p s)])) w') :
    Calls Try.prog 22 #[v, u] w R := by
  have HP := Lib.hid hp
  have HS := Lib.hid hs
  have HR := Lib.hid hR
  clear hp hs hR
  by_cases h : chk p s = 0
  · have H := Lib.hid h
    clear h
    go_enter Try.func22, Try.ntmps22
    go_wp2_with fail
    refine rasked_any p s _ _ _ HP.out HS.out _ ?_
    intro w1 hg1
    rw [H.out]
    go_wp2_with fail
    refine rtrace0_any p s _ _ _ (HP.out.grow hg1) (HS.out.grow hg1) H.out _ ?_
    intro w2 x y hg2 _ hy
    have HRR := HR.out w2 y (hg1.trans hg2)
    rw [H.out, ifOK_ok] at HRR
    have HF := Lib.hid (HRR hy)
    clear HRR hg1 hg2 hy HR
    go_wp2_with fail
    exact HF.out
  · have HRR := HR.out
    rw [ifOK_err h] at HRR
    have HRR2 := Lib.hid HRR
    clear HRR HR
    generalize he : chk p s = e at h HRR2
    have H := Lib.hid he
    clear he
    have hb : (e == 0) = false := by simpa using h
    have hb2 : (e != 0) = true := by simpa using h
    go_enter Try.func22, Try.ntmps22
    go_wp2_with fail
    refine rasked_any p s _ _ _ HP.out HS.out _ ?_
    intro w1 hg1
    rw [H.out]
    go_wp2_with fail
    exact HRR2.out _ _ hg1 (SlcAt.nil _ _ _)

set_option maxHeartbeats 2000000 in
theorem rDone_any (p : List Ln) (s : List Int) (v u : Value) (w : World) (hp : LinesAt w v p) (hs : IntsAt w u s) (R : Ending → World → Prop)
    (hR : ∀ w' x, Grow w w' → IntsAt w' x (ifOK (chk p s) (doneM p s)) → R (.returned (.tuple #[x, .int .i64 (chk p s)])) w') :
    Calls Try.prog 24 #[v, u] w R := by
  have HP := Lib.hid hp
  have HS := Lib.hid hs
  have HR := Lib.hid hR
  clear hp hs hR
  by_cases h : chk p s = 0
  · have H := Lib.hid h
    clear h
    go_enter Try.func24, Try.ntmps24
    go_wp2_with fail
    refine rasked_any p s _ _ _ HP.out HS.out _ ?_
    intro w1 hg1
    rw [H.out]
    go_wp2_with fail
    refine rtrace0_any p s _ _ _ (HP.out.grow hg1) (HS.out.grow hg1) H.out _ ?_
    intro w2 x y hg2 hx _
    have HG2 := Lib.hid (hg1.trans hg2)
    have HRR := HR.out
    rw [H.out, ifOK_ok] at HRR
    unfold doneM at HRR
    have HR2 := Lib.hid HRR
    have hvl := visits_length p s
    have hvl8 := (valP_ok.1 (chk_ok.1 H.out).1).1
    have HX := Lib.hid hx
    clear HRR hg1 hg2 HR hx
    generalize visits p s = vs at hvl HR2 HX
    obtain ⟨a, c, rfl, hm, _⟩ := HX.out.at
    go_wp2_with fail
    go_loopw [7, 10] (fun out i wr => ∃ k : Nat, k ≤ vs.length ∧ i = .int .i64 k ∧ wr.ownsRow w2.heap.size 3 1 out ((vs.take k).map fun v => (v.1 : Int)).length (((vs.take k).map fun v => (v.1 : Int)).flatMap encI) ∧ Grow w2 wr) (fun _ i _ => vs.length - (intOf i).toNat)
    case atStart => exact ⟨0, Nat.zero_le _, rfl, World.ownsRow_nil _ _ _ _, Grow.refl _⟩
    case round =>
      obtain ⟨k, hk, rfl, hown, hg⟩ := hrel
      have HO := Lib.hid hown
      have HG := Lib.hid hg
      clear hown hg
      by_cases hlt : k < vs.length
      · obtain ⟨⟨ln, st⟩, hx⟩ : ∃ l, vs[k]? = some l := ⟨_, List.getElem?_eq_getElem hlt⟩
        obtain ⟨a2, c2, e0, _, hat⟩ := (HX.out.grow HG.out).at
        cases e0
        obtain ⟨b, o, a', c', rfl, k0, k1, _⟩ := hat k _ hx
        have htk : (vs.take (k + 1)).map (fun v => (v.1 : Int)) = (vs.take k).map (fun v => (v.1 : Int)) ++ [(ln : Int)] := by
          rw [List.take_add_one, hx]; simp
        have HTK := Lib.hid htk
        have hsz := HG.out.sz
        have hn1 : ((vs.take k).map fun v => (v.1 : Int)).length < 100000000000 := by simp; omega
        clear htk hat hx k1
        go_wp2_with (at_builtin; refine wpList_app _ rfl (.tmp 29) (.tmp 35) 23 rfl w2.heap.size 3 Try.underlying23 info_int rfl (by decide) (by decide) encI encI_len encI_one _ ((vs.take k).map fun v => (v.1 : Int)) rfl (HO.out.alloc _) ⟨wr.heap.size, 0, none⟩ (ln : Int) 1 rfl (news_one _ (encI ln) _) hn1 (by simp; omega) ?_; intro out1 w5 hown1 hgr1)
        have hg5 : Grow w2 w5 := grown_below HO.out hgr1 (Nat.le_refl _) (by simp; omega) (HG.out.alloc _)
        rw [← HTK.out] at hown1
        go_roundw
        case rel => exact ⟨k + 1, by omega, by go_num, hown1, hg5⟩
        case measure => simp [intOf]; omega
      · have hke : k = vs.length := by omega
        subst hke
        have hown := HO.out
        rw [List.take_length] at hown
        have HF := Lib.hid (HR2.out wr u7 (HG2.out.trans HG.out) (slc_of_owns encI_len hown))
        clear hown
        go_wp2_with fail
        exact HF.out
  · have HRR := HR.out
    rw [ifOK_err h] at HRR
    have HRR2 := Lib.hid HRR
    clear HRR HR
    generalize he : chk p s = e at h HRR2
    have H := Lib.hid he
    clear he
    have hb : (e == 0) = false := by simpa using h
    have hb2 : (e != 0) = true := by simpa using h
    go_enter Try.func24, Try.ntmps24
    go_wp2_with fail
    refine rasked_any p s _ _ _ HP.out HS.out _ ?_
    intro w1 hg1
    rw [H.out]
    go_wp2_with fail
    exact HRR2.out _ _ hg1 (SlcAt.nil _ _ _)

set_option maxHeartbeats 2000000 in
theorem rBefore_any (p : List Ln) (s : List Int) (line : Int) (v u : Value) (w : World) (hp : LinesAt w v p) (hs : IntsAt w u s) (hpl : p.length < 100000000) (R : Ending → World → Prop)
    (hR : ∀ w' x, Grow w w' → IntsAt w' x (optL (befO p s line)) → R (.returned (.tuple #[x, .bool (befO p s line).isSome, .int .i64 (befE p s line)])) w') :
    Calls Try.prog 40 #[v, u, .int .i64 line] w R := by
  have HP := Lib.hid hp
  have HS := Lib.hid hs
  have HR := Lib.hid hR
  obtain ⟨pa, pc, rfl, hp1, hp2, _⟩ := hp
  clear hs hR
  by_cases h : chk p s = 0
  · have H := Lib.hid h
    by_cases hin : inB line 0 (p.length - 1) = true
    · have hbe : befE p s line = 0 := by simp [befE, h, hin]
      have hbo : befO p s line = ((visits p s).find? fun v => (v.1 : Int) == line).map (·.2) := by simp [befO, hbe]
      have HRR := HR.out
      rw [hbe, hbo] at HRR
      have HR2 := Lib.hid HRR
      clear HRR HR hbe hbo h
      go_enter Try.func40, Try.ntmps40
      go_wp2_with fail
      refine rasked_any p s _ _ _ HP.out HS.out _ ?_
      intro w1 hg1
      rw [H.out]
      go_wp2_with fail
      refine rwithin_any _ _ _ _ _ ?_
      go_wp2_with fail
      refine rtrace0_any p s _ _ _ (HP.out.grow hg1) (HS.out.grow hg1) H.out _ ?_
      intro w2 x y hg2 hx _
      have HG2 := Lib.hid (hg1.trans hg2)
      have hvl := visits_length p s
      have hvl8 := (valP_ok.1 (chk_ok.1 H.out).1).1
      have HX := Lib.hid hx
      clear hg1 hg2 hx
      generalize visits p s = vs at hvl HR2 HX
      obtain ⟨a, c, rfl, hm, _⟩ := HX.out.at
      go_wp2_with fail
      go_loopw [12] (fun i wr => ∃ k : Nat, k ≤ vs.length ∧ i = .int .i64 k ∧ Grow w2 wr ∧ ∀ v ∈ vs.take k, ((v.1 : Int) == line) = false) (fun i _ => vs.length - (intOf i).toNat)
      case atStart => exact ⟨0, Nat.zero_le _, rfl, Grow.refl _, by simp⟩
      case round =>
        obtain ⟨k, hk, rfl, hg, hno⟩ := hrel
        have HNO := Lib.hid hno
        have HG := Lib.hid hg
        clear hno hg
        by_cases hlt : k < vs.length
        · obtain ⟨⟨ln, st⟩, hx⟩ : ∃ l, vs[k]? = some l := ⟨_, List.getElem?_eq_getElem hlt⟩
          obtain ⟨a2, c2, e0, _, hat⟩ := (HX.out.grow HG.out).at
          cases e0
          obtain ⟨b, o, a', c', rfl, k0, k1, hi⟩ := hat k _ hx
          have HX2 := Lib.hid hx
          have HI := Lib.hid hi
          clear hat hx hi
          by_cases hl : ((ln : Int) == line) = true
          · have hf := find_at HNO.out HX2.out hl
            have HRR := HR2.out
            rw [hf] at HRR
            have HF := Lib.hid (HRR wr _ (HG2.out.trans HG.out) HI.out)
            clear HRR HR2 hf
            go_wp2_with fail
            go_ret3
            exact HF.out
          · replace hl : ((ln : Int) == line) = false := by simpa using hl
            go_wp2_with fail
            go_roundw
            case rel => exact ⟨k + 1, by omega, by go_num, HG.out, find_take_succ HNO.out HX2.out hl⟩
            case measure => simp [intOf]; omega
        · have hf := find_none HNO.out (by omega)
          have HRR := HR2.out
          rw [hf] at HRR
          have HR3 := Lib.hid HRR
          clear HRR HR2 hf
          go_wp2_with fail
          go_ret3
          exact HR3.out _ _ (HG2.out.trans HG.out) (SlcAt.nil _ _ _)
    · replace hin : inB line 0 (p.length - 1) = false := by simpa using hin
      have hbe : befE p s line = 4 := by simp [befE, h, hin]
      have hbo : befO p s line = none := by simp [befO, hbe]
      have HRR := HR.out
      rw [hbe, hbo] at HRR
      have HR2 := Lib.hid HRR
      clear HRR HR hbe hbo h
      go_enter Try.func40, Try.ntmps40
      go_wp2_with fail
      refine rasked_any p s _ _ _ HP.out HS.out _ ?_
      intro w1 hg1
      rw [H.out]
      go_wp2_with fail
      refine rwithin_any _ _ _ _ _ ?_
      go_wp2_with fail
      go_ret3
      exact HR2.out _ _ hg1 (SlcAt.nil _ _ _)
  · have hbe : befE p s line = chk p s := by simp [befE, h]
    have hbo : befO p s line = none := by simp [befO, hbe, h]
    have HRR := HR.out
    rw [hbe, hbo] at HRR
    generalize he : chk p s = e at h HRR
    have H := Lib.hid he
    have HR2 := Lib.hid HRR
    clear HRR HR hbe hbo he
    have hb : (e == 0) = false := by simpa using h
    have hb2 : (e != 0) = true := by simpa using h
    go_enter Try.func40, Try.ntmps40
    go_wp2_with fail
    refine rasked_any p s _ _ _ HP.out HS.out _ ?_
    intro w1 hg1
    rw [H.out]
    go_wp2_with fail
    go_ret3
    exact HR2.out _ _ hg1 (SlcAt.nil _ _ _)
end Go.Proofs.Ytmaphlbmmemgcaa
