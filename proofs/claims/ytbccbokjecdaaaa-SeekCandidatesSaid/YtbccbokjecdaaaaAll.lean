/- The walk of All: all lines. -/
import Derived.Test.YtbccbokjecdaaaaSkF
import Derived.Test.YtbccbokjecdaaaaPlAll
namespace Go.Proofs.Ytbccbokjecdaaaa
open Go.RowKit

/-- The row that All has gathered. -/
structure AL (w : World) (xs : List Ln) (out : Value) (wr : World) : Prop where
  g : Grow w wr
  ow : wr.ownsRow w.heap.size 23 4 out xs.length (xs.flatMap encL)
theorem AL.grow {w : World} {xs : List Ln} {out : Value} {wr W : World} (h : AL w xs out wr) (g : Grow wr W) : AL w xs out W := ⟨h.g.trans g, g.owns h.ow⟩
theorem AL.app {w : World} {y : Ln} {xs : List Ln} {out out' : Value} {wr W w2 : World} (h : AL w xs out wr) (g : Grow wr W) (ho : w2.ownsRow w.heap.size 23 4 out' (xs ++ [y]).length ((xs ++ [y]).flatMap encL)) (hg : W.grownBy w2 out.ownBlock) : AL w (xs ++ [y]) out' w2 :=
  have h2 := h.grow g
  ⟨grown_below h2.ow hg (by omega) h2.g.sz h2.g, ho⟩
theorem AL.end_ {w : World} {xs : List Ln} {out : Value} {wr : World} (h : AL w xs out wr) (hp : 0 < xs.length) : ∃ g cap, out = .slice (some ⟨g, 0, none⟩) xs.length cap ∧ w.heap.size ≤ g ∧ g < wr.heap.size ∧ xs.length ≤ cap ∧ cap ≤ 9223372036854775807 ∧ RowL wr g 0 xs := by
  have hr := h.ow
  rcases h.ow.2 with ⟨_, h0⟩ | ⟨g, cap, cur, rfl, hg, hh, _⟩
  · omega
  · obtain ⟨_, c, e, h1, h2, _⟩ := slc_of_owns encL_len h.ow
    cases e
    exact ⟨g, cap, rfl, hg, lt_of_block hh, h1, h2, RowL.of_own h.ow⟩

theorem flat_len {α : Type} (f : Nat → List α) (m : Nat) (h : ∀ k, (f k).length ≤ m) : ∀ n, ((List.range n).flatMap f).length ≤ m * n
  | 0 => by simp
  | n + 1 => by
    rw [range_flat, List.length_append]
    have := flat_len f m h n
    have := h n
    rw [Nat.mul_succ]; omega
theorem okOf_len (l : Ln) : (okOf l).length ≤ 1 := by unfold okOf; split <;> simp
theorem allB_len (op d a : Int) (n : Nat) : (allB op d a n).length ≤ n := by have := flat_len (fun b : Nat => okOf ⟨op, d, a, (b : Int)⟩) 1 (fun _ => okOf_len _) n; unfold allB; omega
theorem allA_len (op d : Int) (n : Nat) : (allA op d n).length ≤ 4 * n := flat_len (fun a : Nat => allB op d ((a : Int) - 9) 4) 4 (fun _ => allB_len _ _ _ _) n
theorem allD_len (op : Int) (n : Nat) : (allD op n).length ≤ 76 * n := flat_len (fun d : Nat => allA op (d : Int) 19) 76 (fun d => Nat.le_trans (allA_len op (d : Int) 19) (by omega)) n
theorem allO_len (n : Nat) : (allO n).length ≤ 684 * n := flat_len (fun o : Nat => allD (o : Int) 9) 684 (fun o => Nat.le_trans (allD_len (o : Int) 9) (by omega)) n
theorem all_len (o j m r : Nat) (x : Int) (ho : o < 8) (hj : j < 9) (hm : m < 19) (hr : r < 4) : (allO o ++ allD o j ++ allA o j m ++ allB o j x r).length < 100000000000 := by
  have h1 := allO_len o
  have h2 := allD_len o j
  have h3 := allA_len o j m
  have h4 := allB_len o j x r
  simp only [List.length_append]
  omega

set_option maxRecDepth 100000 in
set_option maxHeartbeats 16000000 in
theorem All_any (w : World) (R : Ending → World → Prop)
    (hR : ∀ w' g cap, Below w.heap.size w w' → w.heap.size ≤ g → g < w'.heap.size → allR.length ≤ cap → cap ≤ 9223372036854775807 → RowL w' g 0 allR → R (.returned (.slice (some ⟨g, 0, none⟩) allR.length cap)) w') :
    Calls Try.prog 8 #[] w R := by
  have HR := Lib.hid hR
  clear hR
  go_enter Try.func8, Try.ntmps8
  go_wp2_with fail
  go_loopw [1, 2] (fun out op wr => ∃ o : Nat, o ≤ 8 ∧ op = .int .i64 o ∧ AL w (allO o) out wr) (fun _ op _ => (8 - intOf op).toNat)
  case atStart => exact ⟨0, by omega, rfl, Grow.refl _, World.ownsRow_nil _ _ _ _⟩
  case round =>
    obtain ⟨o, ho, rfl, ha⟩ := hrel
    have HA := Lib.hid ha
    clear ha
    by_cases hlt : o < 8
    · have hlt2 : (o : Int) ≤ 7 := by omega
      go_wp2_with fail
      obtain ⟨wo, rfl⟩ : ∃ wo : World, wo = wr := ⟨_, rfl⟩
      go_loopw [1, 11] (fun out d wr => ∃ j : Nat, j ≤ 9 ∧ d = .int .i64 j ∧ AL w (allO o ++ allD o j) out wr) (fun _ d _ => (9 - intOf d).toNat)
      case atStart => exact ⟨0, by omega, rfl, by show AL w (allO o ++ []) _ _; rw [List.append_nil]; exact HA.out⟩
      case round =>
        obtain ⟨j, hj, rfl, ha⟩ := hrel
        clear HA
        have HA := Lib.hid ha
        clear ha
        by_cases hltj : j < 9
        · have hltj2 : (j : Int) < 9 := by omega
          go_wp2_with fail
          obtain ⟨wj, rfl⟩ : ∃ wj : World, wj = wr := ⟨_, rfl⟩
          go_loopw [1, 4] (fun out a wr => ∃ (m : Nat) (x : Int), m ≤ 19 ∧ x = (m : Int) - 9 ∧ a = .int .i64 x ∧ AL w (allO o ++ allD o j ++ allA o j m) out wr) (fun _ a _ => (10 - intOf a).toNat)
          case atStart => exact ⟨0, -9, by omega, by omega, rfl, by show AL w (allO o ++ allD o j ++ []) _ _; rw [List.append_nil]; exact HA.out⟩
          case round =>
            obtain ⟨m, x, hm, hx, rfl, ha⟩ := hrel
            clear HA
            have HA := Lib.hid ha
            have HX := Lib.hid hx
            clear ha
            by_cases hltm : m < 19
            · have hx1 : x ≤ 9 := by omega
              have hx0 : -9 ≤ x := by omega
              clear hx
              go_wp2_with fail
              obtain ⟨wm, rfl⟩ : ∃ wm : World, wm = wr := ⟨_, rfl⟩
              go_loopw [1, 18] (fun out b wr => ∃ r : Nat, r ≤ 4 ∧ b = .int .i64 r ∧ AL w (allO o ++ allD o j ++ allA o j m ++ allB o j x r) out wr) (fun _ b _ => (4 - intOf b).toNat)
              case atStart => exact ⟨0, by omega, rfl, by show AL w (allO o ++ allD o j ++ allA o j m ++ []) _ _; rw [List.append_nil]; exact HA.out⟩
              case round =>
                obtain ⟨r, hr, rfl, ha⟩ := hrel
                clear HA
                have HA := Lib.hid ha
                clear ha
                by_cases hltr : r < 4
                · have hltr2 : (r : Int) < 4 := by omega
                  have HLEN := Lib.hid (all_len o j m r x hlt hltj hltm hltr)
                  have HN := Lib.hid (allB_succ o j x r)
                  go_wp2_with fail
                  have hb := heap_alloc_new wr (.cells #[.int .i64 o, .int .i64 j, .int .i64 x, .int .i64 r] 23)
                  have hg := (Grow.refl wr).alloc (.cells #[.int .i64 o, .int .i64 j, .int .i64 x, .int .i64 r] 23)
                  refine validateLine_any o j x r _ _ ?_
                  intro w1 hg1
                  have HG := Lib.hid (hg.trans hg1)
                  have hb1 := hg1.blk hb
                  obtain ⟨e0, e1, e2, e3⟩ := box4 hb1
                  have hz := lt_of_block hb1
                  clear hb hg hg1 hb1
                  cases hv : vL o j x r with
                  | false =>
                    rw [errB_false]
                    have HV := Lib.hid hv
                    clear hv
                    go_wp2_with fail
                    go_roundw
                    case rel =>
                      refine ⟨r + 1, by omega, by go_num, ?_⟩
                      rw [HN.out, show okOf ⟨(o : Int), (j : Int), x, (r : Int)⟩ = [] from by unfold okOf Ln.ok; rw [HV.out]; rfl, List.append_nil]
                      exact HA.out.grow HG.out
                    case measure => simp [intOf]; omega
                  | true =>
                    rw [errB_true]
                    have HV := Lib.hid hv
                    clear hv
                    go_wp2_with (at_builtin; refine wpList_app _ rfl (.tmp 29) (.tmp 31) 29 rfl w.heap.size 23 Try.underlying29 info_ln rfl (by decide) (by decide) encL encL_len encL_one _ (allO o ++ allD o j ++ allA o j m ++ allB o j x r) rfl (HA.out.grow (HG.out.alloc _)).ow _ (⟨o, j, x, r⟩ : Ln) 1 rfl (news_gen _ _ (by simp) (encL ⟨o, j, x, r⟩) _) HLEN.out (by have := HA.out.g.sz; have := HG.out.sz; simp; omega) ?_; intro out2 w2 hown2 hgr2)
                    have HA2 := Lib.hid (HA.out.app (y := ⟨o, j, x, r⟩) (HG.out.alloc _) hown2 hgr2)
                    clear hown2 hgr2
                    go_roundw
                    case rel =>
                      refine ⟨r + 1, by omega, by go_num, ?_⟩
                      rw [HN.out, show okOf ⟨(o : Int), (j : Int), x, (r : Int)⟩ = [⟨(o : Int), (j : Int), x, (r : Int)⟩] from by unfold okOf Ln.ok; rw [HV.out]; rfl, ← List.append_assoc]
                      exact HA2.out
                    case measure => simp [intOf]; omega
                · have hr4 : r = 4 := by omega
                  subst hr4
                  go_wp2_with fail
                  go_roundw
                  case rel =>
                    refine ⟨m + 1, x + 1, by omega, by have := HX.out; omega, rfl, ?_⟩
                    rw [allA_succ, ← HX.out, ← List.append_assoc]
                    exact HA.out
                  case measure => simp [intOf]; omega
            · have hm19 : m = 19 := by omega
              subst hm19
              have hx10 : x = 10 := by omega
              subst hx10
              clear hx HX
              go_wp2_with fail
              go_roundw
              case rel =>
                refine ⟨j + 1, by omega, by go_num, ?_⟩
                rw [allD_succ, ← List.append_assoc]
                exact HA.out
              case measure => simp [intOf]; omega
        · have hj9 : j = 9 := by omega
          subst hj9
          go_wp2_with fail
          go_roundw
          case rel =>
            refine ⟨o + 1, by omega, by go_num, ?_⟩
            rw [allO_succ]
            exact HA.out
          case measure => simp [intOf]; omega
    · have ho8 : o = 8 := by omega
      subst ho8
      have hlen : (allO 8).length = allR.length := by rw [allR_eq]
      obtain ⟨g, cap, rfl, hg1, hg2, hc1, hc2, hrow⟩ := HA.out.end_ (by rw [hlen]; decide)
      have HROW := Lib.hid hrow
      have HL := Lib.hid hlen
      clear hrow hlen
      go_wp2_with fail
      refine ordered_any (allO 8) g _ cap w.heap.size _ rfl HROW.out hg2 hg1 hc1 hc2 (by have := allO_len 8; omega) _ ?_
      intro w3 hb3 hg3 hr3
      rw [ordL_all] at hr3 ⊢
      have HF := Lib.hid (HR.out _ g cap (Below.trans HA.out.g hb3) hg1 hg3 (by rw [← HL.out]; exact hc1) hc2 hr3)
      clear hb3 hr3
      go_wp2_with fail
      exact HF.out
end Go.Proofs.Ytbccbokjecdaaaa
