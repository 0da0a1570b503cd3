/- The walks of package code: copies, the state at the end, the lines that are done, the state before a line. -/
import Derived.Test.YtmaphlbmmemgcaaCodeD
import Derived.Test.YtmaphlbmmemgcaaBase2
namespace Go.Proofs.Ytmaphlbmmemgcaa
open Go.RowKit

theorem info_int : (Try.prog.info? 3).map (fun i => (i.zero, i.size, i.bytes)) = some (some (.int .i64 0), 1, 8) := by kernel_rfl
theorem info_line : (Try.prog.info? 37).map (fun i => (i.zero, i.size, i.bytes)) = some (some (.agg #[.int .i64 0, .int .i64 0, .int .i64 0, .int .i64 0]), 4, 32) := by kernel_rfl

set_option maxHeartbeats 1000000 in
theorem cloneI_any (xs : List Int) (v : Value) (w : World) (hx : SlcAt 1 encI w v xs) (hn : xs.length < 10000000000) (R : Ending → World → Prop) (hR : ∀ w' x, Grow w w' → Own 1 encI w.heap.size w' x xs → R (.returned x) w') :
    Calls Try.prog 78 #[v] w R := by
  have hx' := hx
  obtain ⟨a, c, rfl, h1, h2, h3⟩ := hx'
  have HX := Lib.hid hx
  have HR := Lib.hid hR
  clear hx hR
  have heq := fun (W : World) (a : Option Addr) (n c : Nat) => Lib.run_eql_slice_nil (P := Try.prog) W 23 3 a n c 0 0 Try.underlying23
  cases a with
  | none =>
    have hxs : xs = [] := by
      rcases h3 with ⟨h3, _⟩ | ⟨b, o, h3, _⟩
      · exact h3
      · cases h3
    subst hxs
    clear h3
    go_enter Try.func78, Try.ntmps78
    go_wp2_with fail
    exact HR.out _ _ (Grow.refl _) (Own.nil _ _ _ _)
  | some ad =>
    clear h3
    go_enter Try.func78, Try.ntmps78
    go_wp2_with (at_builtin; refine wpList_appAll _ rfl (.tmp 5) (.tmp 6) 23 rfl w.heap.size 3 Try.underlying23 info_int rfl (by decide) (by decide) encI encI_len encI_one _ [] rfl (ownsRow_empty w 1 _ _ _ (Nat.le_refl _)) _ xs rfl (HX.out.grow ((Grow.refl w).alloc _)) (by simp; omega) (by simp) ?_; intro v1 w1 hown1 hgr1)
    exact HR.out _ _ (grown_below (ownsRow_empty w 1 3 encI _ (Nat.le_refl _)) hgr1 (Nat.le_refl _) (by simp) ((Grow.refl w).alloc _)) ⟨_, hown1⟩

set_option maxHeartbeats 1000000 in
theorem cloneL_any (xs : List Ln) (v : Value) (w : World) (hx : SlcAt 4 encL w v xs) (hn : xs.length < 10000000000) (R : Ending → World → Prop) (hR : ∀ w' x, Grow w w' → Own 4 encL w.heap.size w' x xs → R (.returned x) w') :
    Calls Try.prog 77 #[v] w R := by
  have hx' := hx
  obtain ⟨a, c, rfl, h1, h2, h3⟩ := hx'
  have HX := Lib.hid hx
  have HR := Lib.hid hR
  clear hx hR
  have heq := fun (W : World) (a : Option Addr) (n c : Nat) => Lib.run_eql_slice_nil (P := Try.prog) W 22 37 a n c 0 0 Try.underlying22
  cases a with
  | none =>
    have hxs : xs = [] := by
      rcases h3 with ⟨h3, _⟩ | ⟨b, o, h3, _⟩
      · exact h3
      · cases h3
    subst hxs
    clear h3
    go_enter Try.func77, Try.ntmps77
    go_wp2_with fail
    exact HR.out _ _ (Grow.refl _) (Own.nil _ _ _ _)
  | some ad =>
    clear h3
    go_enter Try.func77, Try.ntmps77
    go_wp2_with (at_builtin; refine wpList_appAll _ rfl (.tmp 5) (.tmp 6) 22 rfl w.heap.size 37 Try.underlying22 info_line rfl (by decide) (by decide) encL encL_len encL_one _ [] rfl (ownsRow_empty w 4 _ _ _ (Nat.le_refl _)) _ xs rfl (HX.out.grow ((Grow.refl w).alloc _)) (by simp; omega) (by simp) ?_; intro v1 w1 hown1 hgr1)
    exact HR.out _ _ (grown_below (ownsRow_empty w 4 37 encL _ (Nat.le_refl _)) hgr1 (Nat.le_refl _) (by simp) ((Grow.refl w).alloc _)) ⟨_, hown1⟩

theorem free_forced (w : World) (n : Nat) : ForcedBy 61 #[] w n noF := fun _ W _ _ R hR => free_any _ W R (hR W (Grow.refl _))

set_option maxHeartbeats 1000000 in
theorem run0_any (p : List Ln) (s : List Int) (v u : Value) (w : World) (hp : LinesAt w v p) (hs : IntsAt w u s) (h : chk p s = 0) (R : Ending → World → Prop)
    (hR : ∀ w' x, Grow w w' → Own 5 encV w.heap.size w' x (visits p s) → R (.returned (.tuple #[x, .agg (arrS (trc p noF 0 (St.ofL s)).2)])) w') :
    Calls Try.prog 60 #[v, u, .func (.func 61) #[] #[]] w R := by
  obtain ⟨h1, h2⟩ := chk_ok.1 h
  obtain ⟨h3, h4⟩ := valP_ok.1 h1
  obtain ⟨q, rfl, hq⟩ := St.of_valS h2
  refine run_any 61 #[] (enters_of Try.func61 (by kernel_rfl) rfl) noF p q v u w hp hs h3 h4 hq (free_forced _ _) (fun _ _ h => by cases h) R ?_
  exact hR

set_option maxHeartbeats 1000000 in
theorem Run_any (p : List Ln) (s : List Int) (v u : Value) (w : World) (hp : LinesAt w v p) (hs : IntsAt w u s) (R : Ending → World → Prop)
    (hR : ∀ w' x, Grow w w' → OwnI w.heap.size w' x (ifOK (chk p s) (runM p s)) → R (.returned (.tuple #[x, .int .i64 (chk p s)])) w') :
    Calls Try.prog 21 #[v, u] w R := by
  have HP := Lib.hid hp
  have HS := Lib.hid hs
  have HR := Lib.hid hR
  clear hp hs hR
  by_cases h : chk p s = 0
  · have H := Lib.hid h
    clear h
    go_enter Try.func21, Try.ntmps21
    go_wp2_with fail
    refine check_any p s _ _ _ HP.out HS.out _ ?_
    intro w1 hg1
    rw [H.out]
    go_wp2_with fail
    refine run0_any p s _ _ _ (HP.out.grow hg1) (HS.out.grow hg1) H.out _ ?_
    intro w2 x hg2 hown
    have hg3 := hg1.trans hg2
    have HRR := HR.out
    rw [H.out, ifOK_ok] at HRR
    have HRR2 := Lib.hid HRR
    unfold runM at HRR2
    clear HRR hg1 hg2 hown HR
    generalize (trc p noF 0 (St.ofL s)).2 = q at HRR2 ⊢
    unfold arrS
    go_wp2_with fail
    refine HRR2.out _ _ (hg3.alloc _) ⟨75, ?_⟩
    exact World.ownsRow_lit w2 (arrS q) 4 hg3.sz (by simp [maxLen]) rfl
  · have HRR := HR.out
    rw [ifOK_err h] at HRR
    have HRR2 := Lib.hid HRR
    clear HRR HR
    generalize he : chk p s = e at h HRR2
    have H := Lib.hid he
    clear he
    have hb : (e == 0) = false := by simpa using h
    have hb2 : (e != 0) = true := by simpa using h
    go_enter Try.func21, Try.ntmps21
    go_wp2_with fail
    refine check_any p s _ _ _ HP.out HS.out _ ?_
    intro w1 hg1
    rw [H.out]
    go_wp2_with fail
    exact HRR2.out _ _ hg1 (Own.nil _ _ _ _)

set_option maxHeartbeats 1000000 in
theorem Done_any (p : List Ln) (s : List Int) (v u : Value) (w : World) (hp : LinesAt w v p) (hs : IntsAt w u s) (R : Ending → World → Prop)
    (hR : ∀ w' x, Grow w w' → OwnI w.heap.size w' x (ifOK (chk p s) (doneM p s)) → R (.returned (.tuple #[x, .int .i64 (chk p s)])) w') :
    Calls Try.prog 23 #[v, u] w R := by
  have HP := Lib.hid hp
  have HS := Lib.hid hs
  have HR := Lib.hid hR
  clear hp hs hR
  by_cases h : chk p s = 0
  · have H := Lib.hid h
    clear h
    go_enter Try.func23, Try.ntmps23
    go_wp2_with fail
    refine check_any p s _ _ _ HP.out HS.out _ ?_
    intro w1 hg1
    rw [H.out]
    go_wp2_with fail
    refine run0_any p s _ _ _ (HP.out.grow hg1) (HS.out.grow hg1) H.out _ ?_
    intro w2 x hg2 hown
    have hg3 := hg1.trans hg2
    have HRR := HR.out
    rw [H.out, ifOK_ok] at HRR
    have HRR2 := Lib.hid HRR
    unfold doneM at HRR2
    have hvl := visits_length p s
    have hvl8 := (valP_ok.1 (chk_ok.1 H.out).1).1
    clear HRR hg1 hg2 HR
    generalize (trc p noF 0 (St.ofL s)).2 = q
    unfold arrS
    generalize visits p s = vs at hown hvl HRR2
    obtain ⟨a, c, rfl, h1, h2, h3⟩ := hown.slc encV_len
    go_wp2_with fail
    obtain ⟨w3, hw3⟩ : ∃ w3, w2.alloc (.cells #[.int .i64 q.r0, .int .i64 q.r1, .int .i64 q.r2, .int .i64 q.r3] 75) = w3 := ⟨_, rfl⟩
    have hg23 : Grow w2 w3 := hw3 ▸ (Grow.refl w2).alloc _
    rw [hw3]
    clear hw3
    have hg4 := hg3.trans hg23
    have HG4 := Lib.hid hg4
    have HG23 := Lib.hid hg23
    clear hown hg3 hg4 hg23
    go_loopw [9, 26] (fun out i wr => ∃ k : Nat, k ≤ vs.length ∧ i = .int .i64 k ∧ wr.ownsRow w3.heap.size 3 1 out ((vs.take k).map fun v => (v.1 : Int)).length (((vs.take k).map fun v => (v.1 : Int)).flatMap encI) ∧ Grow w3 wr) (fun _ i _ => vs.length - (intOf i).toNat)
    case atStart => exact ⟨0, Nat.zero_le _, rfl, World.ownsRow_nil _ _ _ _, Grow.refl _⟩
    case round =>
      obtain ⟨k, hk, rfl, hown, hg⟩ := hrel
      by_cases hlt : k < vs.length
      · replace h3 := h3.resolve_left (by intro h; simp [h.1] at hlt)
        obtain ⟨b, o, rfl, hb, hc⟩ := h3
        obtain ⟨⟨ln, st⟩, hx⟩ : ∃ l, vs[k]? = some l := ⟨_, List.getElem?_eq_getElem hlt⟩
        obtain ⟨c0, c1, c2, c3, c4⟩ := visits_cell hc k _ hx
        have gg := HG23.out.trans hg
        have e0 := gg.cell c0
        have e1 := gg.cell c1
        have e2 := gg.cell c2
        have e3 := gg.cell c3
        have e4 := gg.cell c4
        have hs3 := hg.sz
        have hs2 := HG23.out.sz
        have nb : b < wr.heap.size := by omega
        have HX := Lib.hid hx
        have HG := Lib.hid hg
        have HC := Lib.hid hc
        clear c0 c1 c2 c3 c4 gg hx hg hc
        have hn1 : ((vs.take k).map fun v => (v.1 : Int)).length < 100000000000 := by simp; omega
        go_wp2_with (at_builtin; refine wpList_app _ rfl (.tmp 30) (.tmp 33) 23 rfl w3.heap.size 3 Try.underlying23 info_int rfl (by decide) (by decide) encI encI_len encI_one _ ((vs.take k).map fun v => (v.1 : Int)) rfl ((hown.alloc _).alloc _) ⟨wr.heap.size + 1, 0, none⟩ (ln : Int) 1 rfl (news_two _ _ (encI ln) _) hn1 (by simp; omega) ?_; intro out1 w5 hown1 hgr1)
        have hg5 : Grow w3 w5 := grown_below hown hgr1 (Nat.le_refl _) (by simp; omega) ((HG.out.alloc _).alloc _)
        have htk : (vs.take (k + 1)).map (fun v => (v.1 : Int)) = (vs.take k).map (fun v => (v.1 : Int)) ++ [(ln : Int)] := by
          rw [List.take_add_one, HX.out]; simp
        rw [← htk] at hown1
        go_roundw
        case rel => exact ⟨k + 1, by omega, by go_num, hown1, hg5⟩
        case measure => simp [intOf]; omega
      · have hke : k = vs.length := by omega
        subst hke
        rw [List.take_length] at hown
        have HO := Lib.hid hown
        have HG := Lib.hid hg
        clear hown hg
        go_wp2_with fail
        exact HRR2.out _ _ (HG4.out.trans HG.out) ⟨_, ownsRow_mono HO.out HG4.out.sz⟩
  · have HRR := HR.out
    rw [ifOK_err h] at HRR
    have HRR2 := Lib.hid HRR
    clear HRR HR
    generalize he : chk p s = e at h HRR2
    have H := Lib.hid he
    clear he
    have hb : (e == 0) = false := by simpa using h
    have hb2 : (e != 0) = true := by simpa using h
    go_enter Try.func23, Try.ntmps23
    go_wp2_with fail
    refine check_any p s _ _ _ HP.out HS.out _ ?_
    intro w1 hg1
    rw [H.out]
    go_wp2_with fail
    exact HRR2.out _ _ hg1 (Own.nil _ _ _ _)

theorem find_none {p : Nat × St → Bool} {vs : List (Nat × St)} {k : Nat} (h : ∀ v ∈ vs.take k, p v = false) (hk : vs.length ≤ k) : vs.find? p = none := by
  rw [List.take_of_length_le hk] at h
  rw [List.find?_eq_none]; intro x hx; simp [h x hx]
theorem find_at {p : Nat × St → Bool} : ∀ {vs : List (Nat × St)} {k : Nat} {x : Nat × St}, (∀ v ∈ vs.take k, p v = false) → vs[k]? = some x → p x = true → vs.find? p = some x
  | [], k, x, _, hx, _ => by simp at hx
  | y :: ys, 0, x, _, hx, hp => by simp at hx; subst hx; simp [hp]
  | y :: ys, k + 1, x, h, hx, hp => by
    have h0 := h y (by simp)
    rw [List.find?_cons, h0]
    exact find_at (k := k) (fun v hv => h v (by simp [hv])) (by simpa using hx) hp

theorem find_take_succ {p : Nat × St → Bool} {vs : List (Nat × St)} {k : Nat} {x : Nat × St} (h : ∀ v ∈ vs.take k, p v = false) (hx : vs[k]? = some x) (hp : p x = false) : ∀ v ∈ vs.take (k + 1), p v = false := by
  intro l hl
  rw [List.take_add_one, hx] at hl
  rcases List.mem_append.1 hl with hl | hl
  · exact h l hl
  · simp at hl; subst hl; exact hp

set_option maxHeartbeats 2000000 in
theorem Before_any (p : List Ln) (s : List Int) (line : Int) (v u : Value) (w : World) (hp : LinesAt w v p) (hs : IntsAt w u s) (hpl : p.length < 100000000) (R : Ending → World → Prop)
    (hR : ∀ w' x, Grow w w' → OwnI w.heap.size w' x (optL (befO p s line)) → R (.returned (.tuple #[x, .bool (befO p s line).isSome, .int .i64 (befE p s line)])) w') :
    Calls Try.prog 39 #[v, u, .int .i64 line] w R := by
  have HP := Lib.hid hp
  have HS := Lib.hid hs
  have HR := Lib.hid hR
  obtain ⟨pa, pc, rfl, hp1, hp2, _⟩ := hp
  clear hs hR
  by_cases h : chk p s = 0
  · have H := Lib.hid h
    by_cases hin : inB line 0 (p.length - 1) = true
    · have hbe : befE p s line = 0 := by simp [befE, h, hin]
      have hbo : befO p s line = ((visits p s).find? fun v => (v.1 : Int) == line).map (·.2) := by simp [befO, hbe]
      have HRR := HR.out
      rw [hbe, hbo] at HRR
      have HR2 := Lib.hid HRR
      clear HRR HR hbe hbo h
      go_enter Try.func39, Try.ntmps39
      go_wp2_with fail
      refine check_any p s _ _ _ HP.out HS.out _ ?_
      intro w1 hg1
      rw [H.out]
      go_wp2_with fail
      refine within_any _ _ _ _ _ ?_
      go_wp2_with fail
      refine run0_any p s _ _ _ (HP.out.grow hg1) (HS.out.grow hg1) H.out _ ?_
      intro w2 x hg2 hown
      have hg3 := hg1.trans hg2
      have hvl := visits_length p s
      have hvl8 := (valP_ok.1 (chk_ok.1 H.out).1).1
      clear hg1 hg2
      generalize (trc p noF 0 (St.ofL s)).2 = q
      unfold arrS
      generalize visits p s = vs at hown hvl HR2
      obtain ⟨a, c, rfl, h1, h2, h3⟩ := hown.slc encV_len
      go_wp2_with fail
      obtain ⟨w3, hw3⟩ : ∃ w3, w2.alloc (.cells #[.int .i64 q.r0, .int .i64 q.r1, .int .i64 q.r2, .int .i64 q.r3] 75) = w3 := ⟨_, rfl⟩
      have hg23 : Grow w2 w3 := hw3 ▸ (Grow.refl w2).alloc _
      rw [hw3]
      clear hw3
      have hg4 := hg3.trans hg23
      have HG4 := Lib.hid hg4
      have HG23 := Lib.hid hg23
      clear hown hg3 hg4 hg23
      go_loopw [34] (fun i wr => ∃ k : Nat, k ≤ vs.length ∧ i = .int .i64 k ∧ Grow w3 wr ∧ ∀ v ∈ vs.take k, ((v.1 : Int) == line) = false) (fun i _ => vs.length - (intOf i).toNat)
      case atStart => exact ⟨0, Nat.zero_le _, rfl, Grow.refl _, by simp⟩
      case round =>
        obtain ⟨k, hk, rfl, hg, hno⟩ := hrel
        have HNO := Lib.hid hno
        clear hno
        by_cases hlt : k < vs.length
        · replace h3 := h3.resolve_left (by intro h; simp [h.1] at hlt)
          obtain ⟨b, o, rfl, hb, hc⟩ := h3
          obtain ⟨⟨ln, st⟩, hx⟩ : ∃ l, vs[k]? = some l := ⟨_, List.getElem?_eq_getElem hlt⟩
          obtain ⟨c0, c1, c2, c3, c4⟩ := visits_cell hc k _ hx
          have gg := HG23.out.trans hg
          have e0 := gg.cell c0
          have e1 := gg.cell c1
          have e2 := gg.cell c2
          have e3 := gg.cell c3
          have e4 := gg.cell c4
          have hs3 := hg.sz
          have hs2 := HG23.out.sz
          have nb : b < wr.heap.size := by omega
          have HX := Lib.hid hx
          have HG := Lib.hid hg
          have HC := Lib.hid hc
          clear c0 c1 c2 c3 c4 gg hx hg hc
          by_cases hl : ((ln : Int) == line) = true
          · have hf := find_at HNO.out HX.out hl
            have HRR := HR2.out
            rw [hf] at HRR
            have HR3 := Lib.hid HRR
            clear HRR HR2 hf
            go_wp2_with fail
            refine cloneI_any st.toL _ _ ?_ (by simp [St.toL]) _ ?_
            · refine ⟨_, 4, rfl, by simp [St.toL], by decide, .inr ⟨wr.heap.size, 1, rfl, by simp, ?_⟩⟩
              intro j x hj i u hu
              have hi : i = 0 := by
                have := (List.getElem?_eq_some_iff.1 hu).1
                simp [encI] at this; exact this
              subst hi
              simp [encI] at hu
              subst hu
              match j, hj with
              | 0, hj => simp [St.toL] at hj; subst hj; simp
              | 1, hj => simp [St.toL] at hj; subst hj; simp
              | 2, hj => simp [St.toL] at hj; subst hj; simp
              | 3, hj => simp [St.toL] at hj; subst hj; simp
            · intro w5 x hg5 hown5
              have hfin := HR3.out w5 x (HG4.out.trans ((HG.out.alloc _).trans hg5)) (hown5.mono (by simp; have := HG4.out.sz; omega))
              have HF := Lib.hid hfin
              clear hfin HR3
              go_wp2_with fail
              go_ret3
              exact HF.out
          · replace hl : ((ln : Int) == line) = false := by simpa using hl
            go_wp2_with fail
            go_roundw
            case rel => exact ⟨k + 1, by omega, by go_num, HG.out.alloc _, find_take_succ HNO.out HX.out hl⟩
            case measure => simp [intOf]; omega
        · have hf := find_none HNO.out (by omega)
          have HRR := HR2.out
          rw [hf] at HRR
          have HR3 := Lib.hid HRR
          clear HRR HR2 hf
          go_wp2_with fail
          go_ret3
          exact HR3.out _ _ (HG4.out.trans hg) (Own.nil _ _ _ _)
    · replace hin : inB line 0 (p.length - 1) = false := by simpa using hin
      have hbe : befE p s line = 4 := by simp [befE, h, hin]
      have hbo : befO p s line = none := by simp [befO, hbe]
      have HRR := HR.out
      rw [hbe, hbo] at HRR
      have HR2 := Lib.hid HRR
      clear HRR HR hbe hbo h
      go_enter Try.func39, Try.ntmps39
      go_wp2_with fail
      refine check_any p s _ _ _ HP.out HS.out _ ?_
      intro w1 hg1
      rw [H.out]
      go_wp2_with fail
      refine within_any _ _ _ _ _ ?_
      go_wp2_with fail
      go_ret3
      exact HR2.out _ _ hg1 (Own.nil _ _ _ _)
  · have hbe : befE p s line = chk p s := by simp [befE, h]
    have hbo : befO p s line = none := by simp [befO, hbe, h]
    have HRR := HR.out
    rw [hbe, hbo] at HRR
    generalize he : chk p s = e at h HRR
    have H := Lib.hid he
    have HR2 := Lib.hid HRR
    clear HRR HR hbe hbo he
    have hb : (e == 0) = false := by simpa using h
    have hb2 : (e != 0) = true := by simpa using h
    go_enter Try.func39, Try.ntmps39
    go_wp2_with fail
    refine check_any p s _ _ _ HP.out HS.out _ ?_
    intro w1 hg1
    rw [H.out]
    go_wp2_with fail
    go_ret3
    exact HR2.out _ _ hg1 (Own.nil _ _ _ _)

end Go.Proofs.Ytmaphlbmmemgcaa
