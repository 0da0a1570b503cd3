/- The walk of suite.Greedy. -/
import Derived.Test.YtfbfkkaepgcggaaGreatQ37
import Derived.Test.YtfbfkkaepgcggaaGreatQ02
import Derived.WalkMore
import Derived.ScopeJumps
namespace Go.Proofs.YtfbfkkaepgcggaaGreat
open Go.RowKit

set_option maxHeartbeats 2000000 in
theorem greedy2_any (x m b : Nat) (w : World) (hb : w.heap[b]? = some (.cells #[.int .i64 (m : Int)] 3 (0, 0))) (R : Ending → World → Prop) (hR : ∀ w', Grow w w' → R (.returned (.bool (x == m))) w') :
    Calls Tryz.prog 37 #[.int .i64 (x : Int), .pointer (some ⟨b, 0, none⟩)] w R := by
  have e1 := box1 hb
  have z1 := lt_of_block hb
  have HF := Lib.hid (hR w (Grow.refl _))
  have hd : (x == m) = ((x : Int) == (m : Int)) := by rw [Bool.eq_iff_iff, beq_iff_eq, beq_iff_eq]; omega
  rw [hd] at HF
  clear hR hb hd
  go_enter Tryz.func37, Tryz.ntmps37
  go_wp2_with fail
  exact HF.out
theorem keep_natL (L : List Nat) (m : Nat) : keepI (fun x => x == (m : Int)) (natL L) = natL (L.filter fun r => !(r == m)) := by
  unfold keepI natL
  rw [List.filter_map]
  congr 1
  refine List.filter_congr fun r _ => ?_
  show (!((r : Int) == (m : Int))) = !(r == m)
  congr 1
  rw [Bool.eq_iff_iff, beq_iff_eq, beq_iff_eq]; omega
theorem RowI.heap {w w' : World} {g : Nat} {xs : List Int} (h : RowI w g xs) (e : w'.heap[g]? = w.heap[g]?) : RowI w' g xs := fun j x hj => by
  obtain ⟨h1, h2⟩ := h j x hj
  refine ⟨?_, ?_⟩
  · rw [← h1]; unfold World.cell?; simp only [e]
  · rw [← h2]; unfold World.frozen?; simp only [e]
/-- Where the greedy order stands: S the order so far, in the box bo; L what is left. -/
structure GrI (W : World) (bo Bo : Nat) (S L : List Nat) (lv : Value) (X : World) : Prop where
  grow : Grow W X
  h0 : W.heap.size ≤ bo
  h1 : bo < Bo
  ho : ∃ v, X.heap[bo]? = some (.cells #[v] 25 (0, 0)) ∧ X.ownsRow Bo 3 1 v (natL S).length ((natL S).flatMap encI)
  hl : ∃ la lc, lv = .slice la L.length lc ∧ L.length ≤ lc ∧ lc ≤ 9223372036854775807 ∧ (L = [] ∨ ∃ g, la = some ⟨g, 0, none⟩ ∧ bo < g ∧ g < Bo ∧ RowI X g (natL L))
  sz : Bo ≤ X.heap.size
/-- What the deletion of the row that has been chosen leaves as it is. -/
structure GrD (W : World) (bo Bo bb m : Nat) (S : List Nat) (v : Value) (X : World) : Prop where
  grow : Grow W X
  bb : X.heap[bb]? = some (.cells #[.int .i64 (m : Int)] 3 (0, 0))
  bo : X.heap[bo]? = some (.cells #[v] 25 (0, 0))
  own : X.ownsRow Bo 3 1 v (natL S).length ((natL S).flatMap encI)
  sz : Bo ≤ X.heap.size
theorem GrD.step {W : World} {bo Bo bb m : Nat} {S : List Nat} {v : Value} {X Y : World} (h : GrD W bo Bo bb m S v X) (g : Grow X Y) : GrD W bo Bo bb m S v Y :=
  ⟨h.grow.trans g, g.blk h.bb, g.blk h.bo, g.owns h.own, Nat.le_trans h.sz g.sz⟩
theorem GrD.set {W : World} {bo Bo bb m : Nat} {S : List Nat} {v : Value} {X : World} (h : GrD W bo Bo bb m S v X) {g : Nat} (k : Nat) (u : Value) (h0 : W.heap.size ≤ bo) (h1 : bo < g) (h2 : g < Bo) (h3 : Bo ≤ bb) : GrD W bo Bo bb m S v (X.setCell ⟨g, k, none⟩ u) :=
  ⟨Below.setCell h.grow (by show W.heap.size ≤ g; omega) _, by rw [Below.heap_setCell _ _ _ _ (by show bb ≠ g; omega)]; exact h.bb, by rw [Below.heap_setCell _ _ _ _ (by show bo ≠ g; omega)]; exact h.bo, ownsRow_setCell_below h.own h2 _, by rw [World.size_setCell]; exact h.sz⟩
set_option maxRecDepth 100000 in
set_option maxHeartbeats 16000000 in
theorem Greedy_any (T : List (List Int)) (tv : Value) (w : World) (hx : FamAt w tv T) (hv : ValS T)
    (R : Ending → World → Prop) (hR : ∀ w' v S, Grow w w' → IntsAt w' v (natL S) → (∃ a c, v = .slice a S.length c) → S.Perm (List.range T.length) → GreedyH (hitS T) (goalsS T) T.length S → R (.returned (.tuple #[v, .int .i64 0])) w') :
    Calls Tryz.prog 13 #[tv] w R := by
  have HX := Lib.hid hx
  have HV := Lib.hid hv
  have HR := Lib.hid hR
  have hn8 := hv.rows
  obtain ⟨a, c, rfl, k1, k2⟩ := hx.out
  obtain ⟨n, hn⟩ : ∃ n, T.length = n := ⟨_, rfl⟩
  have HN := Lib.hid hn
  rw [hn] at HX k1 hn8 HR ⊢
  have HEG1 := Lib.hid (show Enters Tryz.prog 35 from enters_of Tryz.func35 (by kernel_rfl) rfl)
  have HEG2 := Lib.hid (show Enters Tryz.prog 37 from enters_of Tryz.func37 (by kernel_rfl) rfl)
  clear hR hx hv hn
  go_enter Tryz.func13, Tryz.ntmps13
  go_wp2_with fail
  have hb := heap_alloc_new w (.cells #[.slice a n c] 22)
  have hg := (Grow.refl w).alloc (.cells #[.slice a n c] 22)
  have hz : (w.alloc (.cells #[.slice a n c] 22)).heap.size = w.heap.size + 1 := by simp
  generalize w.alloc (.cells #[.slice a n c] 22) = W at hb hg hz ⊢
  have HB := Lib.hid hb
  have HGW := Lib.hid hg
  have c0 := box1 hb
  clear hb hg
  obtain ⟨J, hJ⟩ : ∃ J : Act → World → Prop, J = (fun a' X => ∃ (bo Bo : Nat) (S L : List Nat) (lv u7 u8 u9 u10 u11 u12 u13 u14 u15 u16 u17 u18 u19 u20 u21 u22 u23 u24 u25 u26 u27 u28 u29 : Value), a' = { tmps := #[.slice a n c, .pointer (some ⟨w.heap.size, 0, none⟩), .slice none 0 0, .int .i64 0, .int .i64 0, .pointer (some ⟨bo, 0, none⟩), lv, u7, u8, u9, u10, u11, u12, u13, u14, u15, u16, u17, u18, u19, u20, u21, u22, u23, u24, u25, u26, u27, u28, u29], defers := [] } ∧ GrI W bo Bo S L lv X ∧ (S ++ L).Perm (List.range n) ∧ GreedyH (hitS T) (goalsS T) n S) := ⟨_, rfl⟩
  have HJ := Lib.hid hJ
  clear hJ
  apply cut_one
  rotate_left
  · intro key
    refine wp_scope_jumps 0 J (fun a' _ => match a'.tmps.getD 6 undef with | .slice _ k _ => k | _ => 0) rfl ?first ?pass
    case pass =>
      intro a0 w0 h0
      refine wp_seq (wp_skip ?_)
      change Code.wp _ _ _ _ _
      revert a0 w0 h0
      exact key.out
    case first =>
      go_wp2_with fail
      refine uValidate_any T _ _ (HX.out.grow HGW.out) _ ?_
      intro w1 e hg1 he
      obtain rfl := errS_ok he HV.out
      have HG1 := Lib.hid hg1
      have HB1 := Lib.hid (hg1.blk HB.out)
      have c1 := box1 (hg1.blk HB.out)
      have c2 : (w1.alloc (.cells #[.slice none 0 0] 25)).cell? ⟨w.heap.size, 0, none⟩ = some (.slice a n c) := box1 (((Grow.refl w1).alloc _).blk HB1.out)
      clear hg1 he c1
      go_wp2_with fail
      clear c2
      have hb2 := heap_alloc_new w1 (.cells #[.slice none 0 0] 25)
      have hg2 := (Grow.refl w1).alloc (.cells #[.slice none 0 0] 25)
      have hz2 : (w1.alloc (.cells #[.slice none 0 0] 25)).heap.size = w1.heap.size + 1 := by simp
      generalize w1.alloc (.cells #[.slice none 0 0] 25) = W2 at hb2 hg2 hz2 ⊢
      have HB2 := Lib.hid hb2
      have HG2 := Lib.hid (HG1.out.trans hg2)
      have hz1 := HG1.out.sz
      clear hb2 hg2
      refine uall_any n (by omega) _ _ ?_
      intro w3 v3 hg3 ho3
      have HB3 := Lib.hid (hg3.blk HB2.out)
      have HG3 := Lib.hid (HG2.out.trans hg3)
      have hz3 := hg3.sz
      obtain ⟨e3, hrow3⟩ := ho3
      have hs3 := slc_of_owns encI_len hrow3
      obtain ⟨a3, c3, rfl, q1, q2, _⟩ := hs3
      have hl3 : (natL (List.range n)).length = (List.range n).length := natL_len _
      have HGI := Lib.hid (show GrI W w1.heap.size w3.heap.size [] (List.range n) (.slice a3 (natL (List.range n)).length c3) w3 from by
        refine ⟨HG3.out, hz1, by omega, ⟨_, HB3.out, World.ownsRow_nil _ _ _ _⟩, ⟨a3, c3, by rw [hl3], by rw [← hl3]; exact q1, q2, ?_⟩, Nat.le_refl _⟩
        rcases hrow3.2 with ⟨hv, h0⟩ | ⟨g, cap, cur, hv, hbg, hh, _⟩
        · left
          exact List.length_eq_zero_iff.1 (by rw [← hl3]; exact h0)
        · right
          cases hv
          exact ⟨g, rfl, by omega, lt_of_block hh, RowI.of_own hrow3⟩)
      clear hg3 hrow3 hl3 c0
      go_wp2_with fail
      go_step3
      go_step
      go_step
      refine Code.wp_mono ?_ (key.out _ _ ?hj)
      rotate_left
      case hj =>
        rw [HJ.out]
        exact ⟨w1.heap.size, w3.heap.size, [], List.range n, _, _, _, _, _, _, _, _, _, _, _, _, _, _, _, _, _, _, _, _, _, _, _, _, rfl, HGI.out, List.Perm.refl _, greedyH_nil _ _ _⟩
      intro e a2 w2 h
      cases e with
      | goto l => exact ⟨h.1, h.2.1⟩
      | _ => exact h
  · intro a' X hJX
    rw [HJ.out] at hJX
    obtain ⟨bo, Bo, S, L, lv, u7, u8, u9, u10, u11, u12, u13, u14, u15, u16, u17, u18, u19, u20, u21, u22, u23, u24, u25, u26, u27, u28, u29, rfl, hI, hp, hgr⟩ := hJX
    obtain ⟨hg, h0, h1, ⟨ov, hbo, hown⟩, ⟨la, lc, rfl, hl1, hl2, hl3⟩, hsz⟩ := hI
    have hbT := hg.blk HB.out
    have cT := box1 hbT
    have cO := box1 hbo
    have HP := Lib.hid hp
    have HGR := Lib.hid hgr
    have HG := Lib.hid hg
    have HBO := Lib.hid hbo
    have HBT := Lib.hid hbT
    have HOW := Lib.hid hown
    have hSl : S.length ≤ 8 := by have := hp.length_eq; rw [List.length_append, List.length_range] at this; omega
    obtain ⟨oa, oc, rfl, o1, o2, jk⟩ := slc_of_owns encI_len hown
    have HOI := Lib.hid (show IntsAt X (.slice oa S.length oc) (natL S) from by have h9 := slc_of_owns encI_len hown; rw [natL_len] at h9; exact h9)
    rw [natL_len] at o1 cO HBO HOW
    clear hg hbo hown hp hgr hbT jk c0
    by_cases hL : L.length = 0
    · have hL0 : L = [] := List.length_eq_zero_iff.1 hL
      have t1 : ¬ ((L.length : Nat) : Int) > 0 := by omega
      have HF := Lib.hid (HR.out X _ S (HGW.out.trans HG.out) HOI.out ⟨oa, oc, rfl⟩ (by have h9 := HP.out; rw [hL0, List.append_nil] at h9; exact h9) HGR.out)
      clear hl3 hL0
      go_wp2_with fail
      exact HF.out
    · obtain ⟨g, rfl, hg1, hg2, hrI⟩ := hl3.resolve_left (fun h => hL (by rw [h]; rfl))
      have hLp : 0 < L.length := by omega
      have t1 : ((L.length : Nat) : Int) > 0 := by omega
      have hgX : g < X.heap.size := by omega
      have hLI := hrI.ints hgX (by rw [natL_len]; exact hl1) hl2
      rw [natL_len] at hLI
      have HLI := Lib.hid hLI
      have HRI := Lib.hid hrI
      have HSM := Lib.hid (show ∀ r ∈ S, r < T.length from fun r hr => by rw [HN.out]; exact List.mem_range.1 (HP.out.mem_iff.1 (List.mem_append.2 (.inl hr))))
      have HLM := Lib.hid (show ∀ r ∈ L, r < T.length from fun r hr => by rw [HN.out]; exact List.mem_range.1 (HP.out.mem_iff.1 (List.mem_append.2 (.inr hr))))
      have HXX := Lib.hid (HX.out.grow (HGW.out.trans HG.out))
      clear hl3 hrI hLI hL
      go_wp2_with fail
      have hcmp : CmpU 35 #[.pointer (some ⟨w.heap.size, 0, none⟩), .pointer (some ⟨bo, 0, none⟩)] X L (fun r => (metH (hitS T) (goalsS T) (S ++ [r])).length) := by
        intro x hx y hy Y hgY R' hR'
        exact greedy1_any T S x y w.heap.size bo a oa n c oc Y (hgY.blk HBT.out) (hgY.blk HBO.out) (HXX.out.grow hgY) (HOI.out.grow hgY) HV.out HSM.out (HLM.out x hx) (HLM.out y hy) (by omega) R' hR'
      refine maxFunc_any 35 _ HEG1.out _ L _ X HLI.out hLp hcmp _ ?_
      intro w1 m hw1 hm hmax
      have HST := Lib.hid (greedy_step HP.out HGR.out hm hmax)
      have HGA := Lib.hid hw1
      have hzA := hw1.sz
      clear hcmp hw1 hmax
      have hbb := heap_alloc_new w1 (.cells #[.int .i64 (m : Int)] 3)
      have hga := (Grow.refl w1).alloc (.cells #[.int .i64 (m : Int)] 3)
      have hzb : (w1.alloc (.cells #[.int .i64 (m : Int)] 3)).heap.size = w1.heap.size + 1 := by simp
      have cO2 : (w1.alloc (.cells #[.int .i64 (m : Int)] 3)).cell? ⟨bo, 0, none⟩ = some (.slice oa S.length oc) := box1 (hga.blk (HGA.out.blk HBO.out))
      have cB2 := box1 hbb
      have HBB := Lib.hid hbb
      have HGAL := Lib.hid hga
      clear hbb hga
      go_wp2_with (at_builtin; refine Classical.byContradiction (fun hcon => ?_))
      refine hcon ?_
      clear hcon
      generalize w1.alloc (.cells #[.int .i64 (m : Int)] 3) = W2 at HBB HGAL hzb cO2 cB2 ⊢
      have HG2 := Lib.hid (HGA.out.trans HGAL.out)
      have hz2 := HG2.out.sz
      have HOWN := Lib.hid (show W2.ownsRow Bo 3 1 (.slice oa S.length oc) (natL S).length ((natL S).flatMap encI) from by rw [natL_len]; exact HG2.out.owns HOW.out)
      have HOX := Lib.hid (show X.ownsRow Bo 3 1 (.slice oa S.length oc) (natL S).length ((natL S).flatMap encI) from by rw [natL_len]; exact HOW.out)
      refine wpList_app _ rfl (.tmp 22) (.tmp 24) 25 rfl Bo 3 Tryz.underlying25 info_int rfl (by decide) (by decide) encI encI_len encI_one _ (natL S) rfl (((Grow.refl W2).alloc _).owns HOWN.out) _ (m : Int) 1 rfl (newsG W2 _ hzb (encI (m : Int)) _) (by rw [natL_len]; omega) (by simp; omega) ?_
      intro v7 w7 hown7 hgr7
      have hA := (Grow.refl W2).alloc (.cells #[.int .i64 (m : Int)] 3)
      have hg7 : Grow W w7 := grown_below HOWN.out hgr7 (show W.heap.size ≤ Bo by omega) (by simp; have := HG.out.sz; omega) (HG.out.trans (HG2.out.trans hA))
      have hbo7 := grown_keep HOWN.out hgr7 h1 (hA.blk (HG2.out.blk HBO.out))
      have hbb7 := grown_keep_new HOX.out hgr7 (show X.heap.size ≤ w1.heap.size from hzA) (hA.blk HBB.out)
      have hz7 := hgr7.size
      rw [World.size_alloc] at hz7
      obtain ⟨go, hgo⟩ : ∃ o, X.heap[g]? = some o := ⟨_, Array.getElem?_eq_getElem hgX⟩
      have hgg7 := grown_keep HOWN.out hgr7 hg2 (hA.blk (HG2.out.blk hgo))
      rw [← natL_snoc] at hown7
      have hsl7 := slc_of_owns encI_len hown7
      obtain ⟨va, vc, rfl, vq1, vq2, jk⟩ := hsl7
      have hf7 : w7.frozen? ⟨bo, 0, none⟩ = false := by simp [World.frozen?, hbo7]
      have hc7 := box1 hbo7
      -- the store
      have hboS : (w7.setCell ⟨bo, 0, none⟩ (.slice va (natL (S ++ [m])).length vc)).heap[bo]? = some (.cells #[.slice va (natL (S ++ [m])).length vc] 25 (0, 0)) := by rw [heap_setCell_same w7 bo _ _ _ _ hbo7]; rfl
      have hD : GrD W bo Bo w1.heap.size m (S ++ [m]) (.slice va (natL (S ++ [m])).length vc) (w7.setCell ⟨bo, 0, none⟩ (.slice va (natL (S ++ [m])).length vc)) :=
        ⟨Below.setCell hg7 h0 _, by rw [Below.heap_setCell _ _ _ _ (by show w1.heap.size ≠ bo; omega)]; exact hbb7, hboS, ownsRow_setCell_below hown7 h1 _, by rw [World.size_setCell]; omega⟩
      have hRI3 : RowI (w7.setCell ⟨bo, 0, none⟩ (.slice va (natL (S ++ [m])).length vc)) g (natL L) := RowI.heap HRI.out (by rw [Below.heap_setCell _ _ _ _ (by show g ≠ bo; omega), hgg7, hgo])
      have hg3 : g < (w7.setCell ⟨bo, 0, none⟩ (.slice va (natL (S ++ [m])).length vc)).heap.size := by rw [World.size_setCell]; omega
      have hgs : Bo ≤ (w7.setCell ⟨bo, 0, none⟩ (.slice va (natL (S ++ [m])).length vc)).heap.size := by rw [World.size_setCell]; omega
      have HD := Lib.hid hD
      have HRI3 := Lib.hid hRI3
      clear hown7 hgr7 hA hg7 hbo7 hbb7 hgo hgg7 jk hboS hD hRI3 cO2 cB2 cO cT
      go_wp2_with fail
      generalize w7.setCell ⟨bo, 0, none⟩ (.slice va (natL (S ++ [m])).length vc) = W3 at HD HRI3 hg3 hgs ⊢
      have hpD : PredM 37 #[.pointer (some ⟨w1.heap.size, 0, none⟩)] (fun x => x == (m : Int)) (GrD W bo Bo w1.heap.size m (S ++ [m]) (.slice va (natL (S ++ [m])).length vc)) (natL L) := by
        intro x hx Y hY R' hR'
        obtain ⟨r, hr, rfl⟩ := natL_mem.1 hx
        refine greedy2_any r m w1.heap.size Y hY.bb R' ?_
        have e : (r == m) = ((r : Int) == (m : Int)) := by rw [Bool.eq_iff_iff, beq_iff_eq, beq_iff_eq]; omega
        rw [e]
        exact hR'
      have HPD := Lib.hid hpD
      clear hpD
      refine deleteU_any 37 _ HEG2.out (fun x => x == (m : Int)) (GrD W bo Bo w1.heap.size m (S ++ [m]) (.slice va (natL (S ++ [m])).length vc)) (fun Y Y' h k => h.step k) (natL L) HPD.out g L.length lc W.heap.size (fun Y k u h => h.set k u h0 hg1 hg2 (by omega)) W3 (natL_len L) hl1 hl2 HRI3.out hg3 (by omega) HD.out _ ?_
      intro w4 hb4 hg4 hr4 hd4
      rw [keep_natL] at hr4 ⊢
      obtain ⟨L2, hL2⟩ : ∃ z, (L.filter fun r => !(r == m)) = z := ⟨_, rfl⟩
      have hst := HST.out
      rw [hL2] at hr4 hst ⊢
      rw [natL_len L2]
      obtain ⟨st1, st2, st3⟩ := hst
      have HNX := Lib.hid (show GrI W bo Bo (S ++ [m]) L2 (.slice (some ⟨g, 0, none⟩) L2.length lc) w4 from
        ⟨hd4.grow, h0, h1, ⟨_, hd4.bo, hd4.own⟩, ⟨_, lc, rfl, by omega, hl2, .inr ⟨g, rfl, hg1, hg2, hr4⟩⟩, hd4.sz⟩)
      have HS1 := Lib.hid st1
      have HS2 := Lib.hid st2
      clear hb4 hr4 hd4 hL2 st1 st2
      go_wp2_with fail
      go_step3
      repeat go_step
      have hJn := HJ.out
      refine ⟨rfl, ?_, st3⟩
      rw [hJn]
      exact ⟨bo, Bo, S ++ [m], L2, _, _, _, _, _, _, _, _, _, _, _, _, _, _, _, _, _, _, _, _, _, _, _, _, rfl, HNX.out, HS1.out, HS2.out⟩
end Go.Proofs.YtfbfkkaepgcggaaGreat
