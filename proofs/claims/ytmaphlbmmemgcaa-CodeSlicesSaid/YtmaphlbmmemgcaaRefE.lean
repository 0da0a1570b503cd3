/- The walk of the document's trace. -/
import Derived.Test.YtmaphlbmmemgcaaPlT
import Derived.Deep.QuietTactic
import Derived.BigQuiet
import Derived.Deep.Cut
import Derived.Deep.CutRange
import Derived.Deep.DeepCutAuto
namespace Go.Proofs.Ytmaphlbmmemgcaa
open Go.RowKit

theorem info_step : (Try.prog.info? 93).map (fun i => (i.zero, i.size, i.bytes)) = some (some (.agg #[.int .i64 0, .slice none 0 0]), 2, 32) := by kernel_rfl

/-- The steps that a trace returns. -/
def StepsAt (w : World) (base : Nat) (x : Value) (vs : List (Nat × St)) : Prop :=
  ∃ ps : List (Nat × SV), w.ownsRow base 93 2 x ps.length (ps.flatMap encP) ∧ ps.length = vs.length ∧ ∀ (j : Nat) (p : Nat × SV) (v : Nat × St), ps[j]? = some p → vs[j]? = some v → p.1 = v.1 ∧ w.ownsRow base 3 1 (sv p.2) 4 (v.2.toL.flatMap encI)

theorem row_slice {w : World} {base : Nat} {e : TypeId} {k : Nat} {v : Value} {n : Nat} {xs : List Value} (h : w.ownsRow base e k v n xs) (hn : 0 < n) : ∃ g cap, v = .slice (some ⟨g, 0, none⟩) n cap ∧ base ≤ g ∧ g < w.heap.size := by
  rcases h.2 with ⟨_, h0⟩ | ⟨g, cap, cur, rfl, hg, hh, _⟩
  · omega
  · exact ⟨g, cap, rfl, hg, lt_of_block hh⟩

theorem cut_frc {lines values : List Int} (hl : lines.length = values.length) (hb : ∀ n ∈ values, -999 ≤ n ∧ n ≤ 999) (i : Nat) (x : Int) : cut ((frc lines values i).getD x) = (frc lines values i).getD (cut x) := by
  cases h : frc lines values i with
  | none => rfl
  | some n => obtain ⟨h0, h1⟩ := hb n (frcN_mem _ (by omega) h); exact cut_id h0 h1

set_option maxRecDepth 100000 in
set_option maxHeartbeats 8000000 in
theorem rtrace_any (p : List Ln) (s : St) (lines values : List Int) (v u lv vv : Value) (w : World) (hp : LinesAt w v p) (hs : IntsAt w u s.toL) (hlv : IntsAt w lv lines) (hvv : IntsAt w vv values) (hln : lines.length = values.length) (hpl : p.length ≤ 8)
    (hok : ∀ l ∈ p, l.ok = true) (hsf : s.fine) (hfb : ∀ n ∈ values, -999 ≤ n ∧ n ≤ 999) (R : Ending → World → Prop)
    (hR : ∀ w' x y, Grow w w' → StepsAt w' w.heap.size x (trc p (frc lines values) 0 s).1 → OwnI w.heap.size w' y (trc p (frc lines values) 0 s).2.toL → R (.returned (.tuple #[x, y])) w') :
    Calls Try.prog 68 #[v, u, lv, vv] w R := by
  have HP := Lib.hid hp
  have HS := Lib.hid hs
  have HR := Lib.hid hR
  have HLV := Lib.hid hlv
  have HVV := Lib.hid hvv
  have HOK := Lib.hid hok
  have HSF := Lib.hid hsf
  have HFB := Lib.hid hfb
  have HLN := Lib.hid hln
  obtain ⟨a0, c0, rfl, p1, p2, p3⟩ := hp
  obtain ⟨a1, c1, rfl, _, _, _⟩ := hs
  obtain ⟨a2, c2, rfl, l1, l2, l3⟩ := hlv
  obtain ⟨a3, c3, rfl, v1, v2, v3⟩ := hvv
  have hlen : s.toL.length = 4 := rfl
  rw [hlen] at *
  clear hR hok hsf hfb hlen hln
  go_enter Try.func68, Try.ntmps68
  go_wp2_with (at_builtin; refine wpList_appAll _ rfl (.tmp 16) (.tmp 17) 23 rfl w.heap.size 3 Try.underlying23 info_int rfl (by decide) (by decide) encI encI_len encI_one _ [] rfl (ownsRow_empty w 1 _ _ _ (Nat.le_refl _)) _ s.toL rfl (HS.out.grow ((Grow.refl w).alloc _)) (by simp [St.toL]) (by simp) ?_; intro nv w1 hown1 hgr1)
  obtain ⟨g, cap, hv, hgl, hcap, ho⟩ : ∃ g cap, nv = .slice (some ⟨g, 0, none⟩) 4 cap ∧ (w.heap.size ≤ g ∧ g < w1.heap.size) ∧ 4 ≤ cap ∧ w1.ownsRow w.heap.size 3 1 (.slice (some ⟨g, 0, none⟩) 4 cap) 4 (s.toL.flatMap encI) := by
    have h1 : w1.ownsRow w.heap.size 3 1 nv 4 (s.toL.flatMap encI) := hown1
    rcases h1.2 with ⟨_, h0⟩ | ⟨g, cap, cur, rfl, hg, hh, hn, _⟩
    · cases h0
    · exact ⟨g, cap, rfl, ⟨hg, lt_of_block hh⟩, hn, h1⟩
  subst hv
  have hg1 : Grow w w1 := grown_below (ownsRow_empty w 1 3 encI _ (Nat.le_refl _)) hgr1 (Nat.le_refl _) (by simp) ((Grow.refl w).alloc _)
  have hI0 : TrI w w1 g cap s (.slice none 0 0) [] [] w1 := ⟨hg1, Nat.le_refl _, ho, World.ownsRow_nil _ _ _ _, rfl, fun j p v hp => by simp at hp⟩
  have HI0 := Lib.hid hI0
  obtain ⟨gl, gu⟩ := hgl
  have hww := hg1.sz
  obtain ⟨f, hf⟩ : ∃ f, frc lines values = f := ⟨_, rfl⟩
  have HF := Lib.hid hf
  rw [hf] at HR
  clear hown1 hgr1 ho hg1 hI0 hf
  go_loopw [10, 12] (fun out i wr => ∃ (k : Nat) (q : St) (vs : List (Nat × St)) (ps : List (Nat × SV)), i = .int .i64 k ∧ k ≤ 20 ∧ TrI w w1 g cap q out ps vs wr ∧ q.fine ∧ Upto p f s vs k q ∧ vs.length ≤ k) (fun _ i _ => 20 - (intOf i).toNat)
  case atStart => exact ⟨0, s, [], [], rfl, by omega, HI0.out, HSF.out, Upto.start _ _ _, by simp⟩
  case round =>
    obtain ⟨k, q, vs, ps, rfl, hk20, hI, hq, hup, hvl⟩ := hrel
    by_cases hlt : k < p.length
    · replace p3 := p3.resolve_left (by intro h; simp [h.1] at hlt)
      obtain ⟨b, o, rfl, hb, hc⟩ := p3
      obtain ⟨⟨op, d, a, br⟩, hl⟩ : ∃ l, p[k]? = some l := ⟨_, List.getElem?_eq_getElem hlt⟩
      have hvl9 := HOK.out _ (List.mem_of_getElem? hl)
      obtain ⟨o0, o7, od, _⟩ := ok_rd hvl9
      obtain ⟨oa, ob⟩ := ok_args (op := op) (d := d) (a := a) (b := br) hvl9
      obtain ⟨c0', c1', c2', c3'⟩ := lines_cell hc k _ _ _ _ hl
      have hgw : Grow w wr := hI.bel
      have e0 := hgw.cell c0'
      have e1 := hgw.cell c1'
      have e2 := hgw.cell c2'
      have e3 := hgw.cell c3'
      have hsz := hI.sz
      have hpsl : ps.length ≤ 20 := by rw [hI.len]; omega
      have nb : b < wr.heap.size := by omega
      have hnow : IntsAt wr (.slice (some ⟨g, 0, none⟩) 4 cap) q.toL := slc_of_owns encI_len (xs := q.toL) hI.now
      have HNOW := Lib.hid hnow
      have HC := Lib.hid hc
      have HI := Lib.hid hI
      have HL := Lib.hid hl
      have HUP := Lib.hid hup
      have HQ := Lib.hid hq
      have HOUT := Lib.hid hI.out
      clear hc c0' c1' c2' c3' hgw hnow hI hl hup hq l3 v3
      go_upto_region 6 with (first | (at_builtin; refine wpList_appAll _ rfl (.tmp 25) (.tmp 26) 23 rfl w1.heap.size 3 Try.underlying23 info_int rfl (by decide) (by decide) encI encI_len encI_one _ [] rfl (ownsRow_empty wr 1 _ _ _ hsz) _ q.toL rfl (HNOW.out.grow ((Grow.refl wr).alloc _)) (by simp [St.toL]) (by simp; omega) ?_; intro nv2 w2 hown2 hgr2; have hown3 : w2.ownsRow w1.heap.size 3 1 nv2 4 (q.toL.flatMap encI) := hown2; obtain ⟨g2, cap2, hv2, hgb2, hgl2⟩ := row_slice hown3 (by omega); subst hv2; have hg2 : Grow wr w2 := grown_below (ownsRow_empty wr 1 3 encI wr.heap.size (Nat.le_refl _)) hgr2 (Nat.le_refl _) (by simp) ((Grow.refl wr).alloc _); have HG2 := Lib.hid hg2; have HOWN3 := Lib.hid hown3; clear hown2 hgr2 hown3 hg2) | (at_builtin; refine wpList_app _ rfl (.tmp 23) (.tmp 29) 89 rfl w1.heap.size 93 Try.underlying89 info_step rfl (by decide) (by decide) encP encP_len encP_one _ ps rfl ((HG2.out.owns HOUT.out).alloc _) ⟨w2.heap.size, 0, none⟩ (k, (some ⟨g2, 0, none⟩, 4, cap2)) 1 rfl (news_one _ (encP (k, (some ⟨g2, 0, none⟩, 4, cap2))) _) (by omega) (by simp; have := HG2.out.sz; omega) ?_; intro out4 w4 hown4 hgr4))
      have hI4 := HI.out.app (i := k) (bv := (some ⟨g2, 0, none⟩, 4, cap2)) (HG2.out.alloc _) (HOWN3.out.alloc _) hww hown4 hgr4
      have hup4 := HUP.out.step HL.out
      have hgw4 : Grow w w4 := hI4.bel
      have hsz4 := hI4.sz
      have HI4 := Lib.hid hI4
      have HUP4 := Lib.hid hup4
      obtain ⟨c0', c1', c2', c3'⟩ := lines_cell HC.out k _ _ _ _ HL.out
      have e0 := hgw4.cell c0'
      have e1 := hgw4.cell c1'
      have e2 := hgw4.cell c2'
      have e3 := hgw4.cell c3'
      have nb4 : b < w4.heap.size := by omega
      have hnow4 : IntsAt w4 (.slice (some ⟨g, 0, none⟩) 4 cap) q.toL := slc_of_owns encI_len (xs := q.toL) hI4.now
      obtain ⟨_, _, hne, _, _, hnd⟩ := hnow4
      cases hne
      obtain ⟨_, _, hne2, _, hnc⟩ := hnd.resolve_left (by intro h; have := h.1; simp [St.toL] at this)
      cases hne2
      have HNC := Lib.hid hnc
      clear hnd hnc hgw4 hI4 hup4 hown4 hgr4 c0' c1' c2' c3'
      go_upto_region 8 with (fail)
      have hgl4 : g < w4.heap.size := by omega
      have hn16 : (nextI ⟨op, d, a, br⟩ k q : Nat) ≤ 20 := by
        unfold nextI
        split
        · next h7 =>
          have : d ≤ 8 := by
            have h : vL op d a br = true := hvl9
            rw [show op = 7 from h7.1] at h
            simp [vL, inB_def] at h
            omega
          dsimp only; omega
        · omega
      go_cut [52] from 37 to 52 (fun m wc => m = .bool (decide (op = 7 ∧ q.get a < q.get br)) ∧ Grow (w4.alloc (.cells #[.int .i64 op, .int .i64 d, .int .i64 a, .int .i64 br] 37)) wc)
      case first =>
        by_cases h7 : op = 7
        · obtain ⟨a0, a3⟩ := oa (by omega)
          obtain ⟨b0, b3⟩ := ob (by omega)
          have hd : 1 ≤ d ∧ d ≤ 8 := by
            have h : vL op d a br = true := hvl9
            rw [h7] at h
            simp [vL, inB_def] at h
            omega
          subst h7
          have ea := ints_cell HNC.out a.toNat _ (toL_get q a a0 a3)
          have eb := ints_cell HNC.out br.toNat _ (toL_get q br b0 b3)
          rw [Nat.zero_add] at ea eb
          have a4 : a < 4 := by omega
          have b4 : br < 4 := by omega
          by_cases hxy : q.get a < q.get br
          · have hn : decide ((7 : Int) = 7 ∧ q.get a < q.get br) = true := decide_eq_true ⟨rfl, hxy⟩
            have HN := Lib.hid hn
            clear hn
            generalize hxx : q.get a = x at ea hxy
            generalize hyy : q.get br = y at eb hxy
            have HXX := Lib.hid hxx
            have HYY := Lib.hid hyy
            clear hxx hyy
            have t1 : decide (x < y) = true := decide_eq_true hxy
            go_wp2_with (go_quiet (fail))
            all_goals go_meet
            all_goals exact ⟨by rw [← HN.out], (Grow.refl _).drewN _⟩
          · have hn : decide ((7 : Int) = 7 ∧ q.get a < q.get br) = false := decide_eq_false (fun h => hxy h.2)
            have HN := Lib.hid hn
            clear hn
            generalize hxx : q.get a = x at ea hxy
            generalize hyy : q.get br = y at eb hxy
            have HXX := Lib.hid hxx
            have HYY := Lib.hid hyy
            clear hxx hyy
            have t1 : decide (x < y) = false := decide_eq_false hxy
            go_wp2_with (go_quiet (fail))
            all_goals go_meet
            all_goals exact ⟨by rw [← HN.out], (Grow.refl _).drewN _⟩
        · have hn : decide (op = 7 ∧ q.get a < q.get br) = false := decide_eq_false (fun h => h7 h.1)
          have t1 : (op == 7) = false := by simpa using h7
          go_wp2_with (go_quiet (fail))
          all_goals go_meet
          all_goals exact ⟨by rw [hn], (Grow.refl _).drewN _⟩
      case rest =>
        obtain ⟨rfl, hgc⟩ := hcut
        have hbx := hgc.blk (heap_alloc_new w4 (.cells #[.int .i64 op, .int .i64 d, .int .i64 a, .int .i64 br] 37))
        obtain ⟨b0', b1', b2', b3'⟩ := box_cells hbx
        have hzb := lt_of_block hbx
        have HGC := Lib.hid (((Grow.refl w4).alloc _).trans hgc)
        have HBX := Lib.hid hbx
        clear hgc hbx e0 e1 e2 e3
        cases hw : wrB op with
        | true =>
          have hop := inB_true.1 (show inB op 1 6 = true from hw)
          rw [show decide (op = 7 ∧ q.get a < q.get br) = false from decide_eq_false (fun h => by omega)]
          have hwr := wrB_of_ok hvl9
          rw [hw] at hwr
          have HWR := Lib.hid hwr
          have HW := Lib.hid hw
          have hdd := od hw
          obtain ⟨d0, d3⟩ := hdd
          clear hwr hw od oa ob
          go_wp2_with fail
          refine rwrites_any op d a br _ _ ?_
          intro w5 hg5
          rw [HWR.out]
          have hbx5 := hg5.blk HBX.out
          clear b0' b1' b2' b3'
          obtain ⟨b0', b1', b2', b3'⟩ := box_cells hbx5
          have hzb5 := lt_of_block hbx5
          have HGC5 := Lib.hid (HGC.out.trans hg5)
          have HBX5 := Lib.hid hbx5
          clear hg5 hbx5
          go_wp2_with fail
          have hnw5 : IntsAt w5 (.slice (some ⟨g, 0, none⟩) 4 cap) q.toL := slc_of_owns encI_len (xs := q.toL) (HI4.out.grow HGC5.out).now
          refine rvalue_any op d a br q _ _ hvl9 HW.out hnw5 HQ.out _ ?_
          intro w6 hg6
          have hbx6 := hg6.blk HBX5.out
          clear b0' b1' b2' b3' hnw5
          obtain ⟨b0', b1', b2', b3'⟩ := box_cells hbx6
          have hzb6 := lt_of_block hbx6
          have hI6 := HI4.out.grow (HGC5.out.trans hg6)
          have hlv6 := HLV.out.grow hI6.bel
          have hvv6 := HVV.out.grow hI6.bel
          have HGC6 := Lib.hid (HGC5.out.trans hg6)
          have HLV6 := Lib.hid hlv6
          have HVV6 := Lib.hid hvv6
          have HI6 := Lib.hid hI6
          clear hg6 hbx6 hI6 hlv6 hvv6
          obtain ⟨v0, hv0⟩ : ∃ v0, cut (opV op a (q.get a) (q.get br)) = v0 := ⟨_, rfl⟩
          rw [hv0]
          have HV0 := Lib.hid hv0
          clear hv0
          go_wp2_with fail
          go_loop [14, 15] (fun n kk => ∃ j : Nat, j ≤ lines.length ∧ kk = .int .i64 j ∧ n = .int .i64 ((frcN lines values k j).getD v0)) (fun _ kk => lines.length - (intOf kk).toNat)
          case atStart => exact ⟨0, Nat.zero_le _, rfl, rfl⟩
          case round =>
            obtain ⟨j, hj, rfl, rfl⟩ := hrel
            by_cases hjl : j < lines.length
            · have hjv : j < values.length := by rw [← HLN.out]; exact hjl
              obtain ⟨_, _, hne, _, _, hld⟩ := HLV6.out
              cases hne
              obtain ⟨lb, lo, rfl, _, hlc⟩ := hld.resolve_left (by intro h; have := h.1; rw [this] at hjl; simp at hjl)
              obtain ⟨_, _, hne, _, _, hvd⟩ := HVV6.out
              cases hne
              obtain ⟨vb, vo, rfl, _, hvc⟩ := hvd.resolve_left (by intro h; have := h.1; rw [this] at hjv; simp at hjv)
              obtain ⟨x, hx⟩ : ∃ x, lines[j]? = some x := ⟨_, List.getElem?_eq_getElem hjl⟩
              obtain ⟨y, hy⟩ : ∃ y, values[j]? = some y := ⟨_, List.getElem?_eq_getElem hjv⟩
              have ex := ints_cell hlc j x hx
              have ey := ints_cell hvc j y hy
              have dx : lines.getD j 0 = x := by rw [List.getD_eq_getElem?_getD, hx]; rfl
              have dy : values.getD j 0 = y := by rw [List.getD_eq_getElem?_getD, hy]; rfl
              clear hlc hvc hx hy hld hvd
              by_cases hxk : x = (k : Int)
              · have fr : frcN lines values k (j + 1) = some y := by unfold frcN; rw [dx, dy, if_pos hxk]
                have FR := Lib.hid fr
                subst hxk
                clear fr dx dy
                go_wp2_with fail
                go_round
                case rel => exact ⟨j + 1, by omega, by go_num, by rw [FR.out]; rfl⟩
                case measure => simp [intOf]; omega
              · have fr : frcN lines values k (j + 1) = frcN lines values k j := by rw [frcN, dx, dy, if_neg hxk]
                have FR := Lib.hid fr
                have t1 : (x == (k : Int)) = false := by simpa using hxk
                clear fr dx dy
                go_wp2_with fail
                go_round
                case rel => exact ⟨j + 1, by omega, by go_num, by rw [FR.out]⟩
                case measure => simp [intOf]; omega
            · have hje : j = lines.length := by omega
              subst hje
              obtain ⟨n, hn⟩ : ∃ n, (frcN lines values k lines.length).getD v0 = n := ⟨_, rfl⟩
              rw [hn]
              have HN := Lib.hid hn
              have hnow6 : IntsAt w6 (.slice (some ⟨g, 0, none⟩) 4 cap) q.toL := slc_of_owns encI_len (xs := q.toL) HI6.out.now
              obtain ⟨_, _, hne, _, _, hnd⟩ := hnow6
              cases hne
              obtain ⟨_, _, hne2, _, hnc⟩ := hnd.resolve_left (by intro h; have := h.1; simp [St.toL] at this)
              cases hne2
              have ed := ints_cell hnc d.toNat _ (toL_get q d d0 d3)
              rw [Nat.zero_add] at ed
              have zd : w6.frozen? ⟨g, d.toNat, none⟩ = false := ownsRow_free HI6.out.now d.toNat
              have d4 : d < 4 := by omega
              clear hn hnc hnd
              generalize hqd : q.get d = qd at ed
              have HQD := Lib.hid hqd
              clear hqd
              go_wp2_with fail
              go_roundw
              case rel =>
                have hu := HUP4.out
                have e1 : nextI ⟨op, d, a, br⟩ k q = k + 1 := by unfold nextI; rw [if_neg (fun h => by have := h.1; simp at this; omega)]
                have e2 : stepS f ⟨op, d, a, br⟩ k q = q.set d n := by
                  unfold stepS
                  rw [if_pos HW.out, ← HN.out, ← HV0.out]
                  have := cut_frc HLN.out HFB.out k (opV op a (q.get a) (q.get br))
                  rw [HF.out] at this
                  dsimp only
                  rw [this, ← HF.out]; rfl
                rw [e1, e2] at hu
                refine ⟨k + 1, q.set d n, _, _, by go_num, by omega, HI6.out.set gu gl d n d0 d3, ?_, hu, by simp; omega⟩
                rw [← e2]; exact stepS_fine _ _ _ HQ.out
              case measure => simp [intOf]; omega
        | false =>
          have hwr := wrB_of_ok hvl9
          rw [hw] at hwr
          have HWR := Lib.hid hwr
          have HW := Lib.hid hw
          clear hwr hw od oa ob
          by_cases hsk : op = 7 ∧ q.get a < q.get br
          · rw [show decide (op = 7 ∧ q.get a < q.get br) = true from decide_eq_true hsk]
            have hd : 1 ≤ d ∧ d ≤ 8 := by
              have h : vL op d a br = true := hvl9
              rw [hsk.1] at h
              simp [vL, inB_def] at h
              omega
            obtain ⟨d0, d3⟩ := hd
            have HSK := Lib.hid hsk
            clear hsk
            go_wp2_with fail
            refine rwrites_any op d a br _ _ ?_
            intro w5 hg5
            rw [HWR.out]
            have HGC5 := Lib.hid (HGC.out.trans hg5)
            clear hg5
            go_wp2_with fail
            go_roundw
            case rel =>
              have hu := HUP4.out
              have e1 : nextI ⟨op, d, a, br⟩ k q = k + 1 + d.toNat := by unfold nextI; rw [if_pos HSK.out]
              have e2 : stepS f ⟨op, d, a, br⟩ k q = q := by unfold stepS; rw [if_neg (by rw [HW.out]; simp)]
              rw [e1] at hn16
              rw [e1, e2] at hu
              exact ⟨k + 1 + d.toNat, q, _, _, by simp; omega, hn16, HI4.out.grow HGC5.out, HQ.out, hu, by simp; omega⟩
            case measure => simp [intOf]; omega
          · rw [show decide (op = 7 ∧ q.get a < q.get br) = false from decide_eq_false hsk]
            have HSK := Lib.hid hsk
            clear hsk
            go_wp2_with fail
            refine rwrites_any op d a br _ _ ?_
            intro w5 hg5
            rw [HWR.out]
            have HGC5 := Lib.hid (HGC.out.trans hg5)
            clear hg5
            go_wp2_with fail
            go_roundw
            case rel =>
              have hu := HUP4.out
              have e1 : nextI ⟨op, d, a, br⟩ k q = k + 1 := by unfold nextI; rw [if_neg HSK.out]
              have e2 : stepS f ⟨op, d, a, br⟩ k q = q := by unfold stepS; rw [if_neg (by rw [HW.out]; simp)]
              rw [e1, e2] at hu
              exact ⟨k + 1, q, _, _, by go_num, by omega, HI4.out.grow HGC5.out, HQ.out, hu, by simp; omega⟩
            case measure => simp [intOf]; omega
    · obtain ⟨e1, e2⟩ := hup.done (by omega)
      obtain ⟨a9, n9, c9, hout⟩ : ∃ a n c, u10 = .slice a n c := by
        rcases hI.out.2 with ⟨rfl, _⟩ | ⟨g', cap', cur, rfl, _⟩
        · exact ⟨_, _, _, rfl⟩
        · exact ⟨_, _, _, rfl⟩
      subst hout
      have hfin := HR.out wr (.slice a9 n9 c9) (.slice (some ⟨g, 0, none⟩) 4 cap) hI.bel ⟨ps, ownsRow_mono hI.out hww, by rw [← e1]; exact hI.len, fun j p v hp hv => by rw [← e1] at hv; exact ⟨(hI.each j p v hp hv).1, ownsRow_mono (hI.each j p v hp hv).2 hww⟩⟩ ⟨_, by rw [← e2]; exact hI.now⟩
      have HFIN := Lib.hid hfin
      clear hI hup hfin e1 e2
      go_wp2_with fail
      exact HFIN.out
end Go.Proofs.Ytmaphlbmmemgcaa
