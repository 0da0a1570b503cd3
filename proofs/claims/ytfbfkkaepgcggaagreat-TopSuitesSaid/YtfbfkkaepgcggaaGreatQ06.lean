/-
The walk of code.run.
The walk of package code: the state at the end (for the seats that reach no more of it).
The walk of the library's Clone on lists of numbers.
-/
import Derived.Test.YtfbfkkaepgcggaaGreatQ05
import Derived.Test.YtfbfkkaepgcggaaGreatQ00
import Derived.Deep.WholeRow
import Derived.Deep.Cut
import Derived.Deep.CutRange
import Derived.Deep.DeepCutAuto
import Derived.Deep.QuietTactic
import Derived.BigQuiet
namespace Go.Proofs.YtfbfkkaepgcggaaGreat
open Go.RowKit

/-- What a function value forces: f of the line's number, in every world that comes of w. -/
def ForcedBy (g : Nat) (cb : Array Value) (w : World) (n : Nat) (f : Nat → Option Int) : Prop :=
  ∀ (i : Nat) W, i < n → Grow w W → ∀ R : Ending → World → Prop,
    (∀ W', Grow W W' → R (.returned (.tuple #[.int .i64 ((f i).getD 0), .bool (f i).isSome])) W') → Calls Tryz.prog g (#[.int .i64 i] ++ cb) W R

theorem encV_one (v : Nat × St) : ∀ u ∈ encV v, u.oneCell' = true := by
  intro u hu; simp [encV] at hu; rcases hu with rfl | rfl | rfl | rfl | rfl <;> rfl
theorem info_visit : (Tryz.prog.info? 190).map (fun i => (i.zero, i.size, i.bytes)) = some (some (.agg #[.int .i64 0, .int .i64 0, .int .i64 0, .int .i64 0, .int .i64 0]), 5, 40) := by kernel_rfl

/-- Where a run stands: the state q in its block, the table in the block bo, the visits vs in out; nothing older has turned. -/
structure RunI (w0 : World) (bo : Nat) (q : St) (out : Value) (vs : List (Nat × St)) (W : World) : Prop where
  bel : Below w0.heap.size w0 W
  b7 : W.heap[w0.heap.size]? = some (.cells (arrS ⟨0, 0, 0, 0⟩) 180 (0, 0))
  b8 : W.heap[w0.heap.size + 1]? = some (.cells (arrS q) 180 (0, 0))
  b9 : W.heap[bo]? = some (.cells opsC.toArray 187 (0, 0))
  own : W.ownsRow (bo + 1) 190 5 out vs.length (vs.flatMap encV)
  sz : bo + 1 ≤ W.heap.size
  lt : w0.heap.size + 1 < bo

theorem RunI.grow {w0 : World} {bo : Nat} {q : St} {out : Value} {vs : List (Nat × St)} {W W' : World} (h : RunI w0 bo q out vs W) (g : Grow W W') : RunI w0 bo q out vs W' :=
  ⟨Below.of_grow h.bel g (by have := h.sz; have := h.lt; omega), g.blk h.b7, g.blk h.b8, g.blk h.b9, g.owns h.own, Nat.le_trans h.sz g.sz, h.lt⟩
theorem RunI.app {w0 : World} {bo : Nat} {q : St} {out out' : Value} {vs vs' : List (Nat × St)} {W Wa W' : World} (h : RunI w0 bo q out vs W) (ga : Grow W Wa)
    (hown : W'.ownsRow (bo + 1) 190 5 out' vs'.length (vs'.flatMap encV)) (hg : Wa.grownBy W' out.ownBlock) : RunI w0 bo q out' vs' W' := by
  have h2 := h.grow ga
  have hl := h2.lt
  have hz := h2.sz
  exact ⟨grown_below h2.own hg (by omega) (by omega) h2.bel, grown_keep h2.own hg (by omega) h2.b7, grown_keep h2.own hg (by omega) h2.b8, grown_keep h2.own hg (by omega) h2.b9, hown, Nat.le_trans hz hg.size, hl⟩
theorem RunI.set {w0 : World} {bo : Nat} {q : St} {out : Value} {vs : List (Nat × St)} {W : World} (h : RunI w0 bo q out vs W) (r n : Int) (h0 : 0 ≤ r) (h3 : r ≤ 3) :
    RunI w0 bo (q.set r n) out vs (W.setCell ⟨w0.heap.size + 1, r.toNat, none⟩ (.int .i64 n)) := by
  have hl := h.lt
  refine ⟨Below.setCell h.bel (by simp) _, ?_, arr_set h.b8 r n h0 h3, ?_, ownsRow_setCell_below h.own (by simp; omega) _, by rw [World.size_setCell]; exact h.sz, hl⟩
  · rw [Below.heap_setCell _ _ _ _ (by simp)]; exact h.b7
  · rw [Below.heap_setCell _ _ _ _ (by simp; omega)]; exact h.b9
/-- The four cells of a line's block. -/
theorem box_cells {w : World} {b : Nat} {c0 c1 c2 c3 : Value} {e : TypeId} (h : w.heap[b]? = some (.cells #[c0, c1, c2, c3] e (0, 0))) :
    w.cell? ⟨b, 0, none⟩ = some c0 ∧ w.cell? ⟨b, 1, none⟩ = some c1 ∧ w.cell? ⟨b, 2, none⟩ = some c2 ∧ w.cell? ⟨b, 3, none⟩ = some c3 := by
  simp [World.cell?, h]
theorem ops_cells {w : World} {b : Nat} {e : TypeId} (h : w.heap[b]? = some (.cells opsC.toArray e (0, 0))) (j : Nat) (u : Value) (hj : opsC[j]? = some u) : w.cell? ⟨b, j, none⟩ = some u := by
  simp [World.cell?, h, hj]

set_option maxRecDepth 100000 in
set_option maxHeartbeats 2000000 in
theorem run_any (g : Nat) (cb : Array Value) (eg : Enters Tryz.prog g) (f : Nat → Option Int) (p : List Ln) (s : St) (v u : Value) (w : World) (hp : LinesAt w v p) (hs : IntsAt w u s.toL) (hpl : p.length ≤ 8)
    (hok : ∀ l ∈ p, l.ok = true) (hsf : s.fine) (hf : ForcedBy g cb w p.length f) (hfb : ∀ i n, f i = some n → -999 ≤ n ∧ n ≤ 999) (R : Ending → World → Prop)
    (hR : ∀ w' x, Grow w w' → Own 5 encV w.heap.size w' x (trc p f 0 s).1 → R (.returned (.tuple #[x, .agg (arrS (trc p f 0 s).2)])) w') :
    Calls Tryz.prog 167 #[v, u, .func (.func g) #[] cb] w R := by
  obtain ⟨a, c, rfl, h1, h2, h3⟩ := hp
  obtain ⟨a', c', rfl, h1', h2', h3'⟩ := hs
  obtain ⟨b', o', rfl, hb', hc'⟩ := h3'.resolve_left (by simp [St.toL])
  have d0 := ints_cell hc' 0 s.r0 rfl
  have d1 := ints_cell hc' 1 s.r1 rfl
  have d2 := ints_cell hc' 2 s.r2 rfl
  have d3 := ints_cell hc' 3 s.r3 rfl
  rw [Nat.add_zero] at d0
  clear hc' h3'
  have hlen : s.toL.length = 4 := rfl
  rw [hlen] at *
  clear hlen
  unfold Enters at eg
  have HR := Lib.hid hR
  have HF := Lib.hid hf
  have HS := Lib.hid hsf
  have HO := Lib.hid hok
  have HFB := Lib.hid hfb
  clear hR hf hsf hok hfb
  have hcp : (Builtin.copy_ #[25, 25] 3 #[.slice (some ⟨w.heap.size + 1, 0, none⟩) 4 4, .slice (some ⟨b', o', none⟩) 4 c']).run Tryz.prog
      ((w.alloc (.cells #[.int .i64 0, .int .i64 0, .int .i64 0, .int .i64 0] 180)).alloc (.cells #[.int .i64 0, .int .i64 0, .int .i64 0, .int .i64 0] 180)) =
      .ok (.int .i64 4) ((w.alloc (.cells #[.int .i64 0, .int .i64 0, .int .i64 0, .int .i64 0] 180)).alloc (.cells (arrS s) 180)) := by
    refine (run_copy_row _ _ _ _ _ 3 (w.heap.size + 1) 0 4 4 ⟨b', o', none⟩ 4 c' #[.int .i64 0, .int .i64 0, .int .i64 0, .int .i64 0] 180 (encS s) Tryz.underlying25 (by kernel_rfl) ?_ rfl ?_ (by simp [encS]) ?_).trans ?_
    · exact heap_two1 _ _ _
    · intro j x hj
      have hg := ((Grow.refl w).alloc (.cells #[.int .i64 0, .int .i64 0, .int .i64 0, .int .i64 0] 180)).alloc (.cells #[.int .i64 0, .int .i64 0, .int .i64 0, .int .i64 0] 180)
      refine hg.cell ?_
      rw [Addr.add_lit]
      match j, hj with
      | 0, hj => simp [encS] at hj; subst hj; exact d0
      | 1, hj => simp [encS] at hj; subst hj; exact d1
      | 2, hj => simp [encS] at hj; subst hj; exact d2
      | 3, hj => simp [encS] at hj; subst hj; exact d3
    · intro x hx; simp [encS] at hx; rcases hx with rfl | rfl | rfl | rfl <;> rfl
    · have := World.setRow_alloc_new (w.alloc (.cells #[.int .i64 0, .int .i64 0, .int .i64 0, .int .i64 0] 180)) #[.int .i64 0, .int .i64 0, .int .i64 0, .int .i64 0] (arrS s) 180
      rw [World.size_alloc] at this
      exact congrArg _ this
  go_enter Tryz.func167, Tryz.ntmps167
  go_wp2_with fail
  refine operations_any _ _ ?_
  intro w1 hg1
  have hgw := (((Grow.refl w).alloc _).alloc _).trans hg1
  have hb7 := hg1.blk (heap_two0 _ _ _)
  have hb8 := hg1.blk (heap_two1 _ _ _)
  have hz := hg1.sz
  simp only [World.size_alloc] at hz
  have HB7 := Lib.hid hb7
  have HB8 := Lib.hid hb8
  have HGW := Lib.hid hgw
  clear hg1 hb7 hb8 hgw hcp d0 d1 d2 d3
  unfold opsC
  go_wp2_with fail
  go_loopw [10, 11] (fun out i wr => ∃ (k : Nat) (q : St) (vs : List (Nat × St)), k ≤ 16 ∧ i = .int .i64 k ∧ RunI w w1.heap.size q out vs wr ∧ q.fine ∧ vs.length ≤ k ∧ Upto p f s vs k q) (fun _ i _ => 17 - (intOf i).toNat)
  case atStart =>
    refine ⟨0, s, [], by omega, rfl, ⟨Below.alloc HGW.out (by omega) _, ?_, ?_, heap_alloc_new _ _, World.ownsRow_nil _ _ _ _, by simp, by omega⟩, HS.out, by simp, Upto.start _ _ _⟩
    · rw [Below.heap_alloc _ _ _ (by omega)]; exact HB7.out
    · rw [Below.heap_alloc _ _ _ (by omega)]; exact HB8.out
  case round =>
    obtain ⟨k, q, vs, hk, rfl, hI, hqf, hvl, hup⟩ := hrel
    clear HB7 HB8
    by_cases hlt : k < p.length
    · replace h3 := h3.resolve_left (by intro h; simp [h] at hlt)
      obtain ⟨b, o, rfl, hb, hc⟩ := h3
      obtain ⟨⟨op, d, x, y⟩, hx⟩ : ∃ l, p[k]? = some l := ⟨_, List.getElem?_eq_getElem hlt⟩
      obtain ⟨c0, c1, c2, c3⟩ := lines_cell hc k op d x y hx
      have e0 := cell_later hI.bel c0
      have e1 := cell_later hI.bel c1
      have e2 := cell_later hI.bel c2
      have e3 := cell_later hI.bel c3
      obtain ⟨f0, f1, f2, f3⟩ := arr_cells hI.b8
      have hsz := hI.sz
      have n8 : w.heap.size + 1 < wr.heap.size := by omega
      have n9 : w1.heap.size < wr.heap.size := by omega
      have nb : b < wr.heap.size := by omega
      have hlok := HO.out _ (List.mem_of_getElem? hx)
      have HUP := Lib.hid (hup.step hx)
      have HX := Lib.hid hx
      have HI := Lib.hid hI
      have HOK := Lib.hid hlok
      have hown := hI.own
      clear hc c0 c1 c2 c3 hx hup hI hlok
      have hn1 : vs.length < 100000000000 := by omega
      go_upto_region 10 with (at_builtin; refine wpList_app _ rfl (.tmp 33) (.tmp 37) 178 rfl (w1.heap.size + 1) 190 Tryz.underlying178 info_visit rfl (by decide) (by decide) encV encV_len encV_one _ vs rfl ((hown.alloc _).alloc _) ⟨wr.heap.size + 1, 0, none⟩ (k, q) 1 rfl (news_two _ _ (encV (k, q)) _) hn1 (by simp; omega) ?_; intro out1 w2 hown1 hgr1)
      have hbox := grown_keep_new hown hgr1 (Nat.le_refl _) (heap_two0 wr (.cells #[.int .i64 op, .int .i64 d, .int .i64 x, .int .i64 y] 44) (.cells (encV (k, q)).toArray 190))
      have hI2 := HI.out.app (((Grow.refl wr).alloc _).alloc _) hown1 hgr1
      have hsz2 := hgr1.size
      simp only [World.size_alloc] at hsz2
      have HBOX := Lib.hid hbox
      have HI2 := Lib.hid hI2
      obtain ⟨g0, g1, g2, g3⟩ := box_cells hbox
      clear hown hgr1 hown1 HI e0 e1 e2 e3 f0 f1 f2 f3 nb hbox hI2
      by_cases hop7 : op = 7
      · subst hop7
        have hh := HOK.out
        simp [Ln.ok, vL, inB_true] at hh
        obtain ⟨⟨⟨d1, d8⟩, x0, x3⟩, y0, y3⟩ := hh
        have a1 := arr_cell HI2.out.b8 x x0 x3
        have a2 := arr_cell HI2.out.b8 y y0 y3
        have x4 : x < 4 := by omega
        have y4 : y < 4 := by omega
        go_wp2_with fail
        go_quiet (fail)
        have hI3 := HI2.out.grow ((Grow.refl w2).drewN nq)
        have HI3 := Lib.hid hI3
        have g1' : (w2.drewN nq).cell? ⟨wr.heap.size, 1, none⟩ = some (.int .i64 d) := g1
        have hsp : stepS f ⟨7, d, x, y⟩ k q = q := by simp [stepS, wrB, inB_def]
        clear hI3 a1 a2 g0 g1 g2 g3 HBOX
        by_cases hxy : q.get x < q.get y
        · have hnx : nextI ⟨7, d, x, y⟩ k q = k + 1 + d.toNat := by simp [nextI, hxy]
          have HUP2 := Lib.hid (hnx ▸ hsp ▸ HUP.out)
          clear hnx hsp HUP
          go_wp2_with fail
          go_roundw
          case rel => exact ⟨k + 1 + d.toNat, q, vs ++ [(k, q)], by omega, by go_num, HI3.out, hqf, by simp; omega, HUP2.out⟩
          case measure => simp [intOf]; omega
        · have hnx : nextI ⟨7, d, x, y⟩ k q = k + 1 := by simp [nextI, hxy]
          have HUP2 := Lib.hid (hnx ▸ hsp ▸ HUP.out)
          clear hnx hsp HUP
          go_wp2_with fail
          go_roundw
          case rel => exact ⟨k + 1, q, vs ++ [(k, q)], by omega, by go_num, HI3.out, hqf, by simp; omega, HUP2.out⟩
          case measure => simp [intOf]; omega
      · have hb7 : (op == 7) = false := by simpa using hop7
        have hnx : nextI ⟨op, d, x, y⟩ k q = k + 1 := by simp [nextI, hop7]
        by_cases hw : wrB op = true
        · have hdT : wrT op d = d := by simp [wrT, hw]
          have hlok := HOK.out
          have hst : stepS f ⟨op, d, x, y⟩ k q = q.set d (cut ((f k).getD (opV op x (q.get x) (q.get y)))) := by simp [stepS, hw]
          have HUP2 := Lib.hid (hnx ▸ hst ▸ HUP.out)
          have hop : op = 1 ∨ op = 2 ∨ op = 3 ∨ op = 4 ∨ op = 5 ∨ op = 6 := by
            unfold wrB at hw; have := inB_true.1 hw; omega
          have HOP := Lib.hid hop
          have hd03 : 0 ≤ d ∧ d ≤ 3 := by
            have hh := hlok
            rcases hop with rfl | rfl | rfl | rfl | rfl | rfl <;> simp [Ln.ok, vL, inB_true] at hh <;> omega
          obtain ⟨hd0, hd3⟩ := hd03
          clear hnx hst HUP hop hlok
          go_upto_if 69 with (first | (go_at_call 170; refine writes_any _ _ _ _ _ _ ?_; intro w3 hg3) | (go_at_fn g; refine HF.out k _ hlt (show Grow w _ from (HI2.out.grow hg3).bel) _ ?_; intro w4 hg4))
          have hI4 := (HI2.out.grow hg3).grow hg4
          obtain ⟨g0, g1, g2, g3⟩ := box_cells ((hg3.trans hg4).blk HBOX.out)
          have HI4 := Lib.hid hI4
          clear hI4 hg3 hg4
          go_cut [13, 15, 16] from 23 to 104 (fun t n _ wc => ∃ m : Int, t = .int .i64 d ∧ n = .int .i64 m ∧ cut m = cut ((f k).getD (opV op x (q.get x) (q.get y))) ∧ (-1998 ≤ m ∧ m ≤ 1998) ∧ RunI w w1.heap.size q out1 (vs ++ [(k, q)]) wc)
          case rest =>
            obtain ⟨m, rfl, rfl, hcm, ⟨hm1, hm2⟩, hIc⟩ := hcut
            have hcl := arr_cell hIc.b8 d hd0 hd3
            have hfr := arr_free hIc.b8 d.toNat
            have d4 : d < 4 := by omega
            have HIC := Lib.hid hIc
            have HCM := Lib.hid hcm
            clear hIc hcm
            have hV : (if -999 < (if m < 999 then m else 999) then (if m < 999 then m else 999) else -999) = cut m := by
              unfold cut
              by_cases q1 : m < 999
              · simp only [q1, if_true]
                by_cases q2 : -999 < m
                · simp only [q2, if_true]; omega
                · simp only [q2, if_false]; omega
              · simp only [q1, if_false]
                simp; omega
            have hvb : -999 ≤ cut m ∧ cut m ≤ 999 := cut_fine m
            rw [← hV] at hvb
            have HUP3 := HUP2
            have HVB := Lib.hid hvb
            have HV := Lib.hid hV
            clear hV hvb
            go_wp2_with fail
            go_roundw
            case rel => exact ⟨k + 1, _, vs ++ [(k, q)], by omega, by go_num, HIC.out.set d _ hd0 hd3, St.set_fine hqf d HVB.out, by simp; omega, by rw [HV.out, HCM.out]; exact HUP3.out⟩
            case measure => simp [intOf]; omega
          case first =>
            clear HUP2 HX HBOX
            cases hfk : f k with
            | some n =>
              obtain ⟨hn1, hn2⟩ := HFB.out k n hfk
              go_wp2_with fail
              go_meet
              case rel => exact ⟨n, rfl, rfl, by rw [hfk]; rfl, by omega, HI4.out⟩
            | none =>
              have hlok := HOK.out
              rcases HOP.out with rfl | rfl | rfl | rfl | rfl | rfl
              · simp [Ln.ok, vL, inB_true] at hlok
                have xb : -9 ≤ x ∧ x ≤ 9 := by omega
                have k0 := ops_cells HI4.out.b9 2 _ rfl
                have k1 := ops_cells HI4.out.b9 3 _ rfl
                clear hlok
                go_wp2_with fail
                go_quiet ((go_at_call 171; exact Calls.quiet_of_same (op1_any _ _ _ _ _ ⟨rfl, rfl⟩)))
                go_wp2_with fail
                go_meet
                case rel => exact ⟨x, rfl, rfl, by rw [hfk]; rfl, by omega, HI4.out.grow ((Grow.refl _).drewN _)⟩
              · simp [Ln.ok, vL, inB_true] at hlok
                have k0 := ops_cells HI4.out.b9 4 _ rfl
                have k1 := ops_cells HI4.out.b9 5 _ rfl
                have x0 : 0 ≤ x := by omega
                have x4 : x < 4 := by omega
                have a1 := arr_cell HI4.out.b8 x (by omega) (by omega)
                obtain ⟨b1, b2⟩ := St.get_fine hqf x
                clear hlok
                go_wp2_with fail
                go_quiet ((go_at_call 172; exact Calls.quiet_of_same (op2_any _ _ _ _ _ ⟨rfl, rfl⟩)))
                go_wp2_with fail
                go_meet
                case rel => exact ⟨q.get x, rfl, rfl, by rw [hfk]; rfl, by omega, HI4.out.grow ((Grow.refl _).drewN _)⟩
              · simp [Ln.ok, vL, inB_true] at hlok
                have k0 := ops_cells HI4.out.b9 6 _ rfl
                have k1 := ops_cells HI4.out.b9 7 _ rfl
                have x0 : 0 ≤ x := by omega
                have x4 : x < 4 := by omega
                have a1 := arr_cell HI4.out.b8 x (by omega) (by omega)
                obtain ⟨b1, b2⟩ := St.get_fine hqf x
                have y0 : 0 ≤ y := by omega
                have y4 : y < 4 := by omega
                have a2 := arr_cell HI4.out.b8 y (by omega) (by omega)
                obtain ⟨b3, b4⟩ := St.get_fine hqf y
                clear hlok
                go_wp2_with fail
                go_quiet ((go_at_call 173; exact Calls.quiet_of_same (op3_any _ _ _ _ (by omega) (by omega) _ ⟨rfl, rfl⟩)))
                go_wp2_with fail
                go_meet
                case rel => exact ⟨q.get x + q.get y, rfl, rfl, by rw [hfk]; rfl, by omega, HI4.out.grow ((Grow.refl _).drewN _)⟩
              · simp [Ln.ok, vL, inB_true] at hlok
                have k0 := ops_cells HI4.out.b9 8 _ rfl
                have k1 := ops_cells HI4.out.b9 9 _ rfl
                have x0 : 0 ≤ x := by omega
                have x4 : x < 4 := by omega
                have a1 := arr_cell HI4.out.b8 x (by omega) (by omega)
                obtain ⟨b1, b2⟩ := St.get_fine hqf x
                have y0 : 0 ≤ y := by omega
                have y4 : y < 4 := by omega
                have a2 := arr_cell HI4.out.b8 y (by omega) (by omega)
                obtain ⟨b3, b4⟩ := St.get_fine hqf y
                clear hlok
                go_wp2_with fail
                go_quiet ((go_at_call 174; exact Calls.quiet_of_same (op4_any _ _ _ _ (by omega) (by omega) _ ⟨rfl, rfl⟩)))
                go_wp2_with fail
                go_meet
                case rel => exact ⟨q.get x - q.get y, rfl, rfl, by rw [hfk]; rfl, by omega, HI4.out.grow ((Grow.refl _).drewN _)⟩
              · simp [Ln.ok, vL, inB_true] at hlok
                have k0 := ops_cells HI4.out.b9 10 _ rfl
                have k1 := ops_cells HI4.out.b9 11 _ rfl
                have x0 : 0 ≤ x := by omega
                have x4 : x < 4 := by omega
                have a1 := arr_cell HI4.out.b8 x (by omega) (by omega)
                obtain ⟨b1, b2⟩ := St.get_fine hqf x
                have y0 : 0 ≤ y := by omega
                have y4 : y < 4 := by omega
                have a2 := arr_cell HI4.out.b8 y (by omega) (by omega)
                obtain ⟨b3, b4⟩ := St.get_fine hqf y
                clear hlok
                go_wp2_with fail
                go_quiet ((go_at_call 175; exact Calls.quiet_of_same (op5_any _ _ _ _ _ ⟨rfl, rfl⟩)))
                go_wp2_with fail
                go_meet
                case rel => exact ⟨min (q.get x) (q.get y), rfl, rfl, by rw [hfk]; rfl, by omega, HI4.out.grow ((Grow.refl _).drewN _)⟩
              · simp [Ln.ok, vL, inB_true] at hlok
                have k0 := ops_cells HI4.out.b9 12 _ rfl
                have k1 := ops_cells HI4.out.b9 13 _ rfl
                have x0 : 0 ≤ x := by omega
                have x4 : x < 4 := by omega
                have a1 := arr_cell HI4.out.b8 x (by omega) (by omega)
                obtain ⟨b1, b2⟩ := St.get_fine hqf x
                have y0 : 0 ≤ y := by omega
                have y4 : y < 4 := by omega
                have a2 := arr_cell HI4.out.b8 y (by omega) (by omega)
                obtain ⟨b3, b4⟩ := St.get_fine hqf y
                clear hlok
                go_wp2_with fail
                go_quiet ((go_at_call 176; exact Calls.quiet_of_same (op6_any _ _ _ _ _ ⟨rfl, rfl⟩)))
                go_wp2_with fail
                go_meet
                case rel => exact ⟨max (q.get x) (q.get y), rfl, rfl, by rw [hfk]; rfl, by omega, HI4.out.grow ((Grow.refl _).drewN _)⟩
        · replace hw : wrB op = false := by simpa using hw
          have hst : stepS f ⟨op, d, x, y⟩ k q = q := by simp [stepS, hw]
          have HUP2 := Lib.hid (hnx ▸ hst ▸ HUP.out)
          clear hnx hst HUP
          go_wp2_with (go_at_call 170; refine writes_any _ _ _ _ _ _ ?_; intro w3 hg3)
          go_roundw
          case rel => exact ⟨k + 1, q, vs ++ [(k, q)], by omega, by go_num, HI2.out.grow hg3, hqf, by simp; omega, HUP2.out⟩
          case measure => simp [intOf]; omega
    · obtain ⟨rfl, rfl⟩ := hup.done (by omega)
      obtain ⟨f0, f1, f2, f3⟩ := arr_cells hI.b8
      obtain ⟨z0, z1, z2, z3⟩ := arr_cells hI.b7
      have y0 := arr_free hI.b7 0
      have y1 := arr_free hI.b7 1
      have y2 := arr_free hI.b7 2
      have y3 := arr_free hI.b7 3
      have HI := Lib.hid hI
      clear hI hqf hup
      generalize hq : (trc p f 0 s).2 = q at *
      have HQ := Lib.hid hq
      clear hq
      have hb5 := arr_fill HI.out.b7 q
      have hbel5 : Below w.heap.size w (fillS wr w.heap.size q) := (Below.setCell (Below.setCell (Below.setCell (Below.setCell HI.out.bel (by simp) _) (by simp) _) (by simp) _) (by simp) _).drew
      have hl := HI.out.lt
      have hown5 : (fillS wr w.heap.size q).ownsRow (w1.heap.size + 1) 190 5 u10 (trc p f 0 s).1.length ((trc p f 0 s).1.flatMap encV) :=
        World.ownsRow.drew (ownsRow_setCell_below (ownsRow_setCell_below (ownsRow_setCell_below (ownsRow_setCell_below HI.out.own (by simp; omega) _) (by simp; omega) _) (by simp; omega) _) (by simp; omega) _)
      unfold fillS at hb5 hbel5 hown5
      have HB5 := Lib.hid hb5
      have HBEL5 := Lib.hid hbel5
      have HOWN5 := Lib.hid hown5
      clear hb5 hbel5 hown5
      go_wp2_with fail
      go_region
      generalize (((((wr.setCell ⟨w.heap.size, 0, none⟩ (.int .i64 q.r0)).setCell ⟨w.heap.size, 1, none⟩ (.int .i64 q.r1)).setCell ⟨w.heap.size, 2, none⟩ (.int .i64 q.r2)).setCell ⟨w.heap.size, 3, none⟩ (.int .i64 q.r3)).drew) = W5 at HB5 HBEL5 HOWN5 ⊢
      obtain ⟨j0, j1, j2, j3⟩ := arr_cells HB5.out
      clear f0 f1 f2 f3 z0 z1 z2 z3 y0 y1 y2 y3
      go_wp2_with fail
      simp [bodyPost, results, Tryz.results167, go_sem, j0, j1, j2, j3]
      exact HR.out W5 u10 HBEL5.out ⟨_, ownsRow_mono HOWN5.out (by omega)⟩
end Go.Proofs.YtfbfkkaepgcggaaGreat

namespace Go.Proofs.YtfbfkkaepgcggaaGreat
open Go.RowKit

theorem info_int : (Tryz.prog.info? 3).map (fun i => (i.zero, i.size, i.bytes)) = some (some (.int .i64 0), 1, 8) := by kernel_rfl
theorem info_line : (Tryz.prog.info? 44).map (fun i => (i.zero, i.size, i.bytes)) = some (some (.agg #[.int .i64 0, .int .i64 0, .int .i64 0, .int .i64 0]), 4, 32) := by kernel_rfl

theorem free_forced (w : World) (n : Nat) : ForcedBy 168 #[] w n noF := fun _ W _ _ R hR => free_any _ W R (hR W (Grow.refl _))

set_option maxHeartbeats 1000000 in
theorem run0_any (p : List Ln) (s : List Int) (v u : Value) (w : World) (hp : LinesAt w v p) (hs : IntsAt w u s) (h : chk p s = 0) (R : Ending → World → Prop)
    (hR : ∀ w' x, Grow w w' → Own 5 encV w.heap.size w' x (visits p s) → R (.returned (.tuple #[x, .agg (arrS (trc p noF 0 (St.ofL s)).2)])) w') :
    Calls Tryz.prog 167 #[v, u, .func (.func 168) #[] #[]] w R := by
  obtain ⟨h1, h2⟩ := chk_ok.1 h
  obtain ⟨h3, h4⟩ := valP_ok.1 h1
  obtain ⟨q, rfl, hq⟩ := St.of_valS h2
  refine run_any 168 #[] (enters_of Tryz.func168 (by kernel_rfl) rfl) noF p q v u w hp hs h3 h4 hq (free_forced _ _) (fun _ _ h => by cases h) R ?_
  exact hR

set_option maxHeartbeats 1000000 in
theorem Run_any (p : List Ln) (s : List Int) (v u : Value) (w : World) (hp : LinesAt w v p) (hs : IntsAt w u s) (R : Ending → World → Prop)
    (hR : ∀ w' x, Grow w w' → OwnI w.heap.size w' x (ifOK (chk p s) (runM p s)) → R (.returned (.tuple #[x, .int .i64 (chk p s)])) w') :
    Calls Tryz.prog 164 #[v, u] w R := by
  have HP := Lib.hid hp
  have HS := Lib.hid hs
  have HR := Lib.hid hR
  clear hp hs hR
  by_cases h : chk p s = 0
  · have H := Lib.hid h
    clear h
    go_enter Tryz.func164, Tryz.ntmps164
    go_wp2_with fail
    refine check_any p s _ _ _ HP.out HS.out _ ?_
    intro w1 hg1
    rw [H.out]
    go_wp2_with fail
    refine run0_any p s _ _ _ (HP.out.grow hg1) (HS.out.grow hg1) H.out _ ?_
    intro w2 x hg2 hown
    have hg3 := hg1.trans hg2
    have HRR := HR.out
    rw [H.out, ifOK_ok] at HRR
    have HRR2 := Lib.hid HRR
    unfold runM at HRR2
    clear HRR hg1 hg2 hown HR
    generalize (trc p noF 0 (St.ofL s)).2 = q at HRR2 ⊢
    unfold arrS
    go_wp2_with fail
    refine HRR2.out _ _ (hg3.alloc _) ⟨180, ?_⟩
    exact World.ownsRow_lit w2 (arrS q) 4 hg3.sz (by simp [maxLen]) rfl
  · have HRR := HR.out
    rw [ifOK_err h] at HRR
    have HRR2 := Lib.hid HRR
    clear HRR HR
    generalize he : chk p s = e at h HRR2
    have H := Lib.hid he
    clear he
    have hb : (e == 0) = false := by simpa using h
    have hb2 : (e != 0) = true := by simpa using h
    go_enter Tryz.func164, Tryz.ntmps164
    go_wp2_with fail
    refine check_any p s _ _ _ HP.out HS.out _ ?_
    intro w1 hg1
    rw [H.out]
    go_wp2_with fail
    exact HRR2.out _ _ hg1 (Own.nil _ _ _ _)
end Go.Proofs.YtfbfkkaepgcggaaGreat

namespace Go.Proofs.YtfbfkkaepgcggaaGreat
open Go.RowKit

set_option maxHeartbeats 1000000 in
theorem cloneR_any (xs : List Int) (v : Value) (w : World) (hx : SlcAt 1 encI w v xs) (hn : xs.length < 10000000000) (R : Ending → World → Prop) (hR : ∀ w' x, Grow w w' → w'.ownsRow w.heap.size 3 1 x xs.length (xs.flatMap encI) → R (.returned x) w') :
    Calls Tryz.prog 30 #[v] w R := by
  have hx' := hx
  obtain ⟨a, c, rfl, h1, h2, h3⟩ := hx'
  have HX := Lib.hid hx
  have HR := Lib.hid hR
  clear hx hR
  have heq := fun (W : World) (a : Option Addr) (n c : Nat) => Lib.run_eql_slice_nil (P := Tryz.prog) W 25 3 a n c 0 0 Tryz.underlying25
  cases a with
  | none =>
    have hxs : xs = [] := by
      rcases h3 with ⟨h3, _⟩ | ⟨b, o, h3, _⟩
      · exact h3
      · cases h3
    subst hxs
    clear h3
    go_enter Tryz.func30, Tryz.ntmps30
    go_wp2_with fail
    exact HR.out _ _ (Grow.refl _) (World.ownsRow_nil _ _ _ _)
  | some ad =>
    clear h3
    go_enter Tryz.func30, Tryz.ntmps30
    go_wp2_with (at_builtin; refine wpList_appAll _ rfl (.tmp 5) (.tmp 6) 25 rfl w.heap.size 3 Tryz.underlying25 info_int rfl (by decide) (by decide) encI encI_len encI_one _ [] rfl (ownsRow_empty w 1 _ _ _ (Nat.le_refl _)) _ xs rfl (HX.out.grow ((Grow.refl w).alloc _)) (by simp; omega) (by simp) ?_; intro v1 w1 hown1 hgr1)
    exact HR.out _ _ (grown_below (ownsRow_empty (α := Int) w 1 3 encI _ (Nat.le_refl _)) hgr1 (Nat.le_refl _) (by simp) ((Grow.refl w).alloc _)) hown1

end Go.Proofs.YtfbfkkaepgcggaaGreat
