/-
The walk of templates, by the operation.
The walk of All: all lines.
The walk of the library's Clone on lines.
-/
import Derived.Test.YtbccbokjecdaaaaGreatB10
import Derived.Test.YtbccbokjecdaaaaGreatB04
namespace Go.Proofs.YtbccbokjecdaaaaGreat
open Go.RowKit
theorem news_drewG (W : World) (n : Nat) (hn : W.heap.size = n) (cs : List Value) (t : TypeId) : ∀ j v, cs[j]? = some v → (W.alloc (.cells cs.toArray t)).drew.cell? ((⟨n, 0, none⟩ : Addr).add j) = some v := news_gen W n hn cs t
set_option maxRecDepth 100000 in
set_option maxHeartbeats 16000000 in
theorem templatesG_any (op d a b : Int) (w : World) (hop : 3 ≤ op ∧ op ≤ 6) (hok : vL op d a b = true) (R : Ending → World → Prop)
    (hR : ∀ w' v, Grow w w' → LinesAt w' v (tmpl ⟨op, d, a, b⟩) → R (.returned v) w') :
    Calls Tryz.prog 60 #[.agg #[.int .i64 op, .int .i64 d, .int .i64 a, .int .i64 b]] w R := by
  have _h := hok
  obtain ⟨h3, h6⟩ := hop
  have n1 : ¬ op = 1 := by omega
  have n2 : ¬ op = 2 := by omega
  have n7 : ¬ op = 7 := by omega
  have n0 : ¬ op = 0 := by omega
  have t1 : (op == 1) = false := by simp; omega
  have t2 : (op == 2) = false := by simp; omega
  have t7 : (op == 7) = false := by simp; omega
  have t0 : (op == 0) = false := by simp; omega
  have t3 : op ≥ 3 := h3
  have hraw : rawT (⟨op, d, a, b⟩ : Ln) = (([⟨0, 0, 0, 0⟩, ⟨op, d, a, b⟩, ⟨op, d, a, b⟩] : List Ln) ++ ((List.range 4).map fun n : Nat => (⟨op, (n : Int), a, b⟩ : Ln)) ++ ((List.range 4).map fun n : Nat => (⟨op, d, (n : Int), b⟩ : Ln)) ++ ((List.range 4).map fun n : Nat => (⟨op, d, a, (n : Int)⟩ : Ln))) ++ [⟨op, d, b, a⟩] ++ ((List.range 4).map fun n : Nat => (⟨3 + (n : Int), d, a, b⟩ : Ln)) := by simp [rawT, byL, fldL, setF, List.range_succ, n1, n2, n7, n0, h3, h6]
  have htm : tmpl (⟨op, d, a, b⟩ : Ln) = validL (rawT (⟨op, d, a, b⟩ : Ln)) (⟨op, d, a, b⟩ : Ln) := by unfold tmpl; rw [if_neg (by simp; omega)]
  rw [hraw] at htm
  rw [htm] at hR
  have HR := Lib.hid hR
  clear hR hraw htm hok
  go_enter Tryz.func60, Tryz.ntmps60
  go_wp2_with fail
  go_loopw [3, 4] (fun out by_ wr => ∃ xs, ((by_ = .int .i64 (-1) ∧ xs = [⟨0, 0, 0, 0⟩]) ∨ (by_ = .int .i64 1 ∧ xs = [⟨0, 0, 0, 0⟩, ⟨op, d, a, b⟩]) ∨ (by_ = .int .i64 3 ∧ xs = [⟨0, 0, 0, 0⟩, ⟨op, d, a, b⟩, ⟨op, d, a, b⟩])) ∧ TI w (⟨op, d, a, b⟩ : Ln) xs out wr) (fun _ by_ _ => (3 - intOf by_).toNat)
  case atStart =>
    refine ⟨_, .inl ⟨rfl, rfl⟩, ((Grow.refl _).alloc _).alloc _, heap_two0 _ _ _, ?_⟩
    have := World.ownsRow_lit (w.alloc (.cells #[.int .i64 op, .int .i64 d, .int .i64 a, .int .i64 b] 25)) (base := w.heap.size + 1) (e := 25) (size := 4) #[.int .i64 0, .int .i64 0, .int .i64 0, .int .i64 0] 1 (by simp) (by simp [maxLen]) rfl
    rw [World.size_alloc] at this
    exact this
  case round =>
    obtain ⟨xs, hc, ht⟩ := hrel
    have HT := Lib.hid ht
    obtain ⟨e0, e1, e2, e3⟩ := box4 ht.bx
    have hz := lt_of_block ht.bx
    clear ht
    rcases hc with ⟨rfl, rfl⟩ | ⟨rfl, rfl⟩ | ⟨rfl, rfl⟩
    · skip
      go_wp2_with (at_builtin; refine wpList_app _ rfl (.tmp 38) (.tmp 40) 22 rfl (w.heap.size + 1) 25 Tryz.underlying22 info_ln rfl (by decide) (by decide) encL encL_len encL_one _ ([⟨0, 0, 0, 0⟩]) rfl (HT.out.grow (by first | exact Grow.alloc (Grow.drew (Below.setCell (Below.setCell HG9.out (Nat.le_refl _) _) (Nat.le_refl _) _)) _ | exact Grow.alloc (Below.setCell (Below.setCell HG9.out (Nat.le_refl _) _) (Nat.le_refl _) _) _ | exact Grow.alloc (Below.setCell (Below.setCell (Grow.drew HG9.out) (Nat.le_refl _) _) (Nat.le_refl _) _) _ | exact ((Grow.refl _).alloc _).alloc _ | exact Grow.alloc (Below.setCell HG3.out (Nat.le_refl _) _) _ | exact Grow.alloc (Below.setCell ((Grow.refl _).alloc _) (Nat.le_refl _) _) _ | exact Grow.alloc (Grow.drew (Below.setCell (Below.setCell ((Grow.refl _).alloc _) (Nat.le_refl _) _) (Nat.le_refl _) _)) _ | exact Grow.alloc (Below.setCell (Below.setCell ((Grow.refl _).alloc _) (Nat.le_refl _) _) (Nat.le_refl _) _) _ | exact (((Grow.refl _).alloc _).drew).alloc _)).ow _ (⟨op, d, a, b⟩) 1 rfl (news_gen _ _ (by simp) (encL (⟨op, d, a, b⟩)) _) (by simp; try omega) (by have := HT.out.sz; simp; omega) ?_; intro out2 w2 hown2 hgr2)
      have HT2 := Lib.hid (HT.out.app (y := ⟨op, d, a, b⟩) (by first | exact Grow.alloc (Grow.drew (Below.setCell (Below.setCell HG9.out (Nat.le_refl _) _) (Nat.le_refl _) _)) _ | exact Grow.alloc (Below.setCell (Below.setCell HG9.out (Nat.le_refl _) _) (Nat.le_refl _) _) _ | exact Grow.alloc (Below.setCell (Below.setCell (Grow.drew HG9.out) (Nat.le_refl _) _) (Nat.le_refl _) _) _ | exact ((Grow.refl _).alloc _).alloc _ | exact Grow.alloc (Below.setCell HG3.out (Nat.le_refl _) _) _ | exact Grow.alloc (Below.setCell ((Grow.refl _).alloc _) (Nat.le_refl _) _) _ | exact Grow.alloc (Grow.drew (Below.setCell (Below.setCell ((Grow.refl _).alloc _) (Nat.le_refl _) _) (Nat.le_refl _) _)) _ | exact Grow.alloc (Below.setCell (Below.setCell ((Grow.refl _).alloc _) (Nat.le_refl _) _) (Nat.le_refl _) _) _ | exact (((Grow.refl _).alloc _).drew).alloc _) hown2 hgr2)
      clear hown2 hgr2
      go_roundw
      case rel => exact ⟨_, .inr (.inl ⟨by first | rfl | go_num, rfl⟩), HT2.out⟩
      case measure => simp [intOf]; done
    · skip
      go_wp2_with (at_builtin; refine wpList_app _ rfl (.tmp 38) (.tmp 40) 22 rfl (w.heap.size + 1) 25 Tryz.underlying22 info_ln rfl (by decide) (by decide) encL encL_len encL_one _ ([⟨0, 0, 0, 0⟩, ⟨op, d, a, b⟩]) rfl (HT.out.grow (by first | exact Grow.alloc (Grow.drew (Below.setCell (Below.setCell HG9.out (Nat.le_refl _) _) (Nat.le_refl _) _)) _ | exact Grow.alloc (Below.setCell (Below.setCell HG9.out (Nat.le_refl _) _) (Nat.le_refl _) _) _ | exact Grow.alloc (Below.setCell (Below.setCell (Grow.drew HG9.out) (Nat.le_refl _) _) (Nat.le_refl _) _) _ | exact ((Grow.refl _).alloc _).alloc _ | exact Grow.alloc (Below.setCell HG3.out (Nat.le_refl _) _) _ | exact Grow.alloc (Below.setCell ((Grow.refl _).alloc _) (Nat.le_refl _) _) _ | exact Grow.alloc (Grow.drew (Below.setCell (Below.setCell ((Grow.refl _).alloc _) (Nat.le_refl _) _) (Nat.le_refl _) _)) _ | exact Grow.alloc (Below.setCell (Below.setCell ((Grow.refl _).alloc _) (Nat.le_refl _) _) (Nat.le_refl _) _) _ | exact (((Grow.refl _).alloc _).drew).alloc _)).ow _ (⟨op, d, a, b⟩) 1 rfl (news_gen _ _ (by simp) (encL (⟨op, d, a, b⟩)) _) (by simp; try omega) (by have := HT.out.sz; simp; omega) ?_; intro out2 w2 hown2 hgr2)
      have HT2 := Lib.hid (HT.out.app (y := ⟨op, d, a, b⟩) (by first | exact Grow.alloc (Grow.drew (Below.setCell (Below.setCell HG9.out (Nat.le_refl _) _) (Nat.le_refl _) _)) _ | exact Grow.alloc (Below.setCell (Below.setCell HG9.out (Nat.le_refl _) _) (Nat.le_refl _) _) _ | exact Grow.alloc (Below.setCell (Below.setCell (Grow.drew HG9.out) (Nat.le_refl _) _) (Nat.le_refl _) _) _ | exact ((Grow.refl _).alloc _).alloc _ | exact Grow.alloc (Below.setCell HG3.out (Nat.le_refl _) _) _ | exact Grow.alloc (Below.setCell ((Grow.refl _).alloc _) (Nat.le_refl _) _) _ | exact Grow.alloc (Grow.drew (Below.setCell (Below.setCell ((Grow.refl _).alloc _) (Nat.le_refl _) _) (Nat.le_refl _) _)) _ | exact Grow.alloc (Below.setCell (Below.setCell ((Grow.refl _).alloc _) (Nat.le_refl _) _) (Nat.le_refl _) _) _ | exact (((Grow.refl _).alloc _).drew).alloc _) hown2 hgr2)
      clear hown2 hgr2
      go_roundw
      case rel => exact ⟨_, .inr (.inr ⟨by first | rfl | go_num, rfl⟩), HT2.out⟩
      case measure => simp [intOf]; done
    · go_wp2_with fail
      refine fieldsG_any op d a b w.heap.size _ ⟨h3, h6⟩ HT.out.bx _ ?_
      intro w1 hg1 _
      have HTF := Lib.hid (HT.out.grow hg1)
      clear hg1 HT e0 e1 e2 e3 hz
      go_wp2_with fail
      go_loopw [3, 44] (fun out k wr => ∃ xs, ((k = .int .i64 0 ∧ xs = (([⟨0, 0, 0, 0⟩, ⟨op, d, a, b⟩, ⟨op, d, a, b⟩] : List Ln))) ∨ (k = .int .i64 1 ∧ xs = (([⟨0, 0, 0, 0⟩, ⟨op, d, a, b⟩, ⟨op, d, a, b⟩] : List Ln) ++ ((List.range 4).map fun n : Nat => (⟨op, (n : Int), a, b⟩ : Ln)))) ∨ (k = .int .i64 2 ∧ xs = (([⟨0, 0, 0, 0⟩, ⟨op, d, a, b⟩, ⟨op, d, a, b⟩] : List Ln) ++ ((List.range 4).map fun n : Nat => (⟨op, (n : Int), a, b⟩ : Ln)) ++ ((List.range 4).map fun n : Nat => (⟨op, d, (n : Int), b⟩ : Ln)))) ∨ (k = .int .i64 3 ∧ xs = (([⟨0, 0, 0, 0⟩, ⟨op, d, a, b⟩, ⟨op, d, a, b⟩] : List Ln) ++ ((List.range 4).map fun n : Nat => (⟨op, (n : Int), a, b⟩ : Ln)) ++ ((List.range 4).map fun n : Nat => (⟨op, d, (n : Int), b⟩ : Ln)) ++ ((List.range 4).map fun n : Nat => (⟨op, d, a, (n : Int)⟩ : Ln))))) ∧ TI w (⟨op, d, a, b⟩ : Ln) xs out wr) (fun _ k _ => (3 - intOf k).toNat)
      case atStart => exact ⟨_, .inl ⟨rfl, rfl⟩, HTF.out⟩
      case round =>
        obtain ⟨xs, hc, ht⟩ := hrel
        have HT := Lib.hid ht
        clear ht HTF
        rcases hc with ⟨rfl, rfl⟩ | ⟨rfl, rfl⟩ | ⟨rfl, rfl⟩ | ⟨rfl, rfl⟩
        · go_wp2_with fail
          go_loopw [3, 47] (fun out i wr => ∃ r : Nat, r ≤ 4 ∧ i = .int .i64 r ∧ TI w (⟨op, d, a, b⟩ : Ln) ((([⟨0, 0, 0, 0⟩, ⟨op, d, a, b⟩, ⟨op, d, a, b⟩] : List Ln)) ++ (List.range r).map (fun n : Nat => (⟨op, (n : Int), a, b⟩ : Ln))) out wr) (fun _ i _ => (4 - intOf i).toNat)
          case atStart => exact ⟨0, by omega, rfl, by rw [List.range_zero, List.map_nil, List.append_nil]; exact HT.out⟩
          case round =>
            obtain ⟨r, hr, rfl, ht⟩ := hrel
            clear HT
            have HT := Lib.hid ht
            obtain ⟨e0, e1, e2, e3⟩ := box4 ht.bx
            have hz := lt_of_block ht.bx
            clear ht
            by_cases hlt : r < 4
            · have hlt2 : (r : Int) < 4 := by omega
              go_wp2_with fail
              refine fieldsG_any op d a b wr.heap.size _ ⟨h3, h6⟩ (heap_alloc_new _ _) _ ?_
              intro w3 hg3 hp3
              rw [World.size_alloc] at hp3 ⊢
              have hm3 := hg3.blk (heap_alloc_new wr (.cells #[.int .i64 op, .int .i64 d, .int .i64 a, .int .i64 b] 25))
              have HG3 := Lib.hid (((Grow.refl wr).alloc _).trans hg3)
              obtain ⟨f0, f1, f2, f3⟩ := box4 hm3
              have p0 := cellOf hp3 0 rfl
              have p1 := cellOf hp3 1 rfl
              have p2 := cellOf hp3 2 rfl
              have z3 := frz hm3 1
              have hzm := lt_of_block hm3
              have hzp := lt_of_block hp3
              clear hg3 hp3 hm3 e0 e1 e2 e3
              go_wp2_with (at_builtin; refine wpList_app _ rfl (.tmp 57) (.tmp 59) 22 rfl (w.heap.size + 1) 25 Tryz.underlying22 info_ln rfl (by decide) (by decide) encL encL_len encL_one _ ((([⟨0, 0, 0, 0⟩, ⟨op, d, a, b⟩, ⟨op, d, a, b⟩] : List Ln)) ++ (List.range r).map (fun n : Nat => (⟨op, (n : Int), a, b⟩ : Ln))) rfl (HT.out.grow (by first | exact Grow.alloc (Grow.drew (Below.setCell (Below.setCell HG9.out (Nat.le_refl _) _) (Nat.le_refl _) _)) _ | exact Grow.alloc (Below.setCell (Below.setCell HG9.out (Nat.le_refl _) _) (Nat.le_refl _) _) _ | exact Grow.alloc (Below.setCell (Below.setCell (Grow.drew HG9.out) (Nat.le_refl _) _) (Nat.le_refl _) _) _ | exact ((Grow.refl _).alloc _).alloc _ | exact Grow.alloc (Below.setCell HG3.out (Nat.le_refl _) _) _ | exact Grow.alloc (Below.setCell ((Grow.refl _).alloc _) (Nat.le_refl _) _) _ | exact Grow.alloc (Grow.drew (Below.setCell (Below.setCell ((Grow.refl _).alloc _) (Nat.le_refl _) _) (Nat.le_refl _) _)) _ | exact Grow.alloc (Below.setCell (Below.setCell ((Grow.refl _).alloc _) (Nat.le_refl _) _) (Nat.le_refl _) _) _ | exact (((Grow.refl _).alloc _).drew).alloc _)).ow _ (⟨op, (r : Int), a, b⟩) 1 rfl (news_gen _ _ (by simp) (encL (⟨op, (r : Int), a, b⟩)) _) (by simp; try omega) (by have := HT.out.sz; simp; omega) ?_; intro out2 w2 hown2 hgr2)
              have HT2 := Lib.hid (HT.out.app (y := ⟨op, (r : Int), a, b⟩) (by first | exact Grow.alloc (Grow.drew (Below.setCell (Below.setCell HG9.out (Nat.le_refl _) _) (Nat.le_refl _) _)) _ | exact Grow.alloc (Below.setCell (Below.setCell HG9.out (Nat.le_refl _) _) (Nat.le_refl _) _) _ | exact Grow.alloc (Below.setCell (Below.setCell (Grow.drew HG9.out) (Nat.le_refl _) _) (Nat.le_refl _) _) _ | exact ((Grow.refl _).alloc _).alloc _ | exact Grow.alloc (Below.setCell HG3.out (Nat.le_refl _) _) _ | exact Grow.alloc (Below.setCell ((Grow.refl _).alloc _) (Nat.le_refl _) _) _ | exact Grow.alloc (Grow.drew (Below.setCell (Below.setCell ((Grow.refl _).alloc _) (Nat.le_refl _) _) (Nat.le_refl _) _)) _ | exact Grow.alloc (Below.setCell (Below.setCell ((Grow.refl _).alloc _) (Nat.le_refl _) _) (Nat.le_refl _) _) _ | exact (((Grow.refl _).alloc _).drew).alloc _) hown2 hgr2)
              clear hown2 hgr2
              go_roundw
              case rel => exact ⟨r + 1, by omega, by go_num, by rw [snoc_range _ _ r]; exact HT2.out⟩
              case measure => simp [intOf]; omega
            · have hr4 : r = 4 := by omega
              subst hr4
              go_wp2_with fail
              go_roundw
              case rel => exact ⟨_, .inr (.inl ⟨by first | rfl | go_num, rfl⟩), HT.out⟩
              case measure => simp [intOf]
        · go_wp2_with fail
          go_loopw [3, 47] (fun out i wr => ∃ r : Nat, r ≤ 4 ∧ i = .int .i64 r ∧ TI w (⟨op, d, a, b⟩ : Ln) ((([⟨0, 0, 0, 0⟩, ⟨op, d, a, b⟩, ⟨op, d, a, b⟩] : List Ln) ++ ((List.range 4).map fun n : Nat => (⟨op, (n : Int), a, b⟩ : Ln))) ++ (List.range r).map (fun n : Nat => (⟨op, d, (n : Int), b⟩ : Ln))) out wr) (fun _ i _ => (4 - intOf i).toNat)
          case atStart => exact ⟨0, by omega, rfl, by rw [List.range_zero, List.map_nil, List.append_nil]; exact HT.out⟩
          case round =>
            obtain ⟨r, hr, rfl, ht⟩ := hrel
            clear HT
            have HT := Lib.hid ht
            obtain ⟨e0, e1, e2, e3⟩ := box4 ht.bx
            have hz := lt_of_block ht.bx
            clear ht
            by_cases hlt : r < 4
            · have hlt2 : (r : Int) < 4 := by omega
              go_wp2_with fail
              refine fieldsG_any op d a b wr.heap.size _ ⟨h3, h6⟩ (heap_alloc_new _ _) _ ?_
              intro w3 hg3 hp3
              rw [World.size_alloc] at hp3 ⊢
              have hm3 := hg3.blk (heap_alloc_new wr (.cells #[.int .i64 op, .int .i64 d, .int .i64 a, .int .i64 b] 25))
              have HG3 := Lib.hid (((Grow.refl wr).alloc _).trans hg3)
              obtain ⟨f0, f1, f2, f3⟩ := box4 hm3
              have p0 := cellOf hp3 0 rfl
              have p1 := cellOf hp3 1 rfl
              have p2 := cellOf hp3 2 rfl
              have z3 := frz hm3 2
              have hzm := lt_of_block hm3
              have hzp := lt_of_block hp3
              clear hg3 hp3 hm3 e0 e1 e2 e3
              go_wp2_with (at_builtin; refine wpList_app _ rfl (.tmp 57) (.tmp 59) 22 rfl (w.heap.size + 1) 25 Tryz.underlying22 info_ln rfl (by decide) (by decide) encL encL_len encL_one _ ((([⟨0, 0, 0, 0⟩, ⟨op, d, a, b⟩, ⟨op, d, a, b⟩] : List Ln) ++ ((List.range 4).map fun n : Nat => (⟨op, (n : Int), a, b⟩ : Ln))) ++ (List.range r).map (fun n : Nat => (⟨op, d, (n : Int), b⟩ : Ln))) rfl (HT.out.grow (by first | exact Grow.alloc (Grow.drew (Below.setCell (Below.setCell HG9.out (Nat.le_refl _) _) (Nat.le_refl _) _)) _ | exact Grow.alloc (Below.setCell (Below.setCell HG9.out (Nat.le_refl _) _) (Nat.le_refl _) _) _ | exact Grow.alloc (Below.setCell (Below.setCell (Grow.drew HG9.out) (Nat.le_refl _) _) (Nat.le_refl _) _) _ | exact ((Grow.refl _).alloc _).alloc _ | exact Grow.alloc (Below.setCell HG3.out (Nat.le_refl _) _) _ | exact Grow.alloc (Below.setCell ((Grow.refl _).alloc _) (Nat.le_refl _) _) _ | exact Grow.alloc (Grow.drew (Below.setCell (Below.setCell ((Grow.refl _).alloc _) (Nat.le_refl _) _) (Nat.le_refl _) _)) _ | exact Grow.alloc (Below.setCell (Below.setCell ((Grow.refl _).alloc _) (Nat.le_refl _) _) (Nat.le_refl _) _) _ | exact (((Grow.refl _).alloc _).drew).alloc _)).ow _ (⟨op, d, (r : Int), b⟩) 1 rfl (news_gen _ _ (by simp) (encL (⟨op, d, (r : Int), b⟩)) _) (by simp; try omega) (by have := HT.out.sz; simp; omega) ?_; intro out2 w2 hown2 hgr2)
              have HT2 := Lib.hid (HT.out.app (y := ⟨op, d, (r : Int), b⟩) (by first | exact Grow.alloc (Grow.drew (Below.setCell (Below.setCell HG9.out (Nat.le_refl _) _) (Nat.le_refl _) _)) _ | exact Grow.alloc (Below.setCell (Below.setCell HG9.out (Nat.le_refl _) _) (Nat.le_refl _) _) _ | exact Grow.alloc (Below.setCell (Below.setCell (Grow.drew HG9.out) (Nat.le_refl _) _) (Nat.le_refl _) _) _ | exact ((Grow.refl _).alloc _).alloc _ | exact Grow.alloc (Below.setCell HG3.out (Nat.le_refl _) _) _ | exact Grow.alloc (Below.setCell ((Grow.refl _).alloc _) (Nat.le_refl _) _) _ | exact Grow.alloc (Grow.drew (Below.setCell (Below.setCell ((Grow.refl _).alloc _) (Nat.le_refl _) _) (Nat.le_refl _) _)) _ | exact Grow.alloc (Below.setCell (Below.setCell ((Grow.refl _).alloc _) (Nat.le_refl _) _) (Nat.le_refl _) _) _ | exact (((Grow.refl _).alloc _).drew).alloc _) hown2 hgr2)
              clear hown2 hgr2
              go_roundw
              case rel => exact ⟨r + 1, by omega, by go_num, by rw [snoc_range _ _ r]; exact HT2.out⟩
              case measure => simp [intOf]; omega
            · have hr4 : r = 4 := by omega
              subst hr4
              go_wp2_with fail
              go_roundw
              case rel => exact ⟨_, .inr (.inr (.inl ⟨by first | rfl | go_num, rfl⟩)), HT.out⟩
              case measure => simp [intOf]
        · go_wp2_with fail
          go_loopw [3, 47] (fun out i wr => ∃ r : Nat, r ≤ 4 ∧ i = .int .i64 r ∧ TI w (⟨op, d, a, b⟩ : Ln) ((([⟨0, 0, 0, 0⟩, ⟨op, d, a, b⟩, ⟨op, d, a, b⟩] : List Ln) ++ ((List.range 4).map fun n : Nat => (⟨op, (n : Int), a, b⟩ : Ln)) ++ ((List.range 4).map fun n : Nat => (⟨op, d, (n : Int), b⟩ : Ln))) ++ (List.range r).map (fun n : Nat => (⟨op, d, a, (n : Int)⟩ : Ln))) out wr) (fun _ i _ => (4 - intOf i).toNat)
          case atStart => exact ⟨0, by omega, rfl, by rw [List.range_zero, List.map_nil, List.append_nil]; exact HT.out⟩
          case round =>
            obtain ⟨r, hr, rfl, ht⟩ := hrel
            clear HT
            have HT := Lib.hid ht
            obtain ⟨e0, e1, e2, e3⟩ := box4 ht.bx
            have hz := lt_of_block ht.bx
            clear ht
            by_cases hlt : r < 4
            · have hlt2 : (r : Int) < 4 := by omega
              go_wp2_with fail
              refine fieldsG_any op d a b wr.heap.size _ ⟨h3, h6⟩ (heap_alloc_new _ _) _ ?_
              intro w3 hg3 hp3
              rw [World.size_alloc] at hp3 ⊢
              have hm3 := hg3.blk (heap_alloc_new wr (.cells #[.int .i64 op, .int .i64 d, .int .i64 a, .int .i64 b] 25))
              have HG3 := Lib.hid (((Grow.refl wr).alloc _).trans hg3)
              obtain ⟨f0, f1, f2, f3⟩ := box4 hm3
              have p0 := cellOf hp3 0 rfl
              have p1 := cellOf hp3 1 rfl
              have p2 := cellOf hp3 2 rfl
              have z3 := frz hm3 3
              have hzm := lt_of_block hm3
              have hzp := lt_of_block hp3
              clear hg3 hp3 hm3 e0 e1 e2 e3
              go_wp2_with (at_builtin; refine wpList_app _ rfl (.tmp 57) (.tmp 59) 22 rfl (w.heap.size + 1) 25 Tryz.underlying22 info_ln rfl (by decide) (by decide) encL encL_len encL_one _ ((([⟨0, 0, 0, 0⟩, ⟨op, d, a, b⟩, ⟨op, d, a, b⟩] : List Ln) ++ ((List.range 4).map fun n : Nat => (⟨op, (n : Int), a, b⟩ : Ln)) ++ ((List.range 4).map fun n : Nat => (⟨op, d, (n : Int), b⟩ : Ln))) ++ (List.range r).map (fun n : Nat => (⟨op, d, a, (n : Int)⟩ : Ln))) rfl (HT.out.grow (by first | exact Grow.alloc (Grow.drew (Below.setCell (Below.setCell HG9.out (Nat.le_refl _) _) (Nat.le_refl _) _)) _ | exact Grow.alloc (Below.setCell (Below.setCell HG9.out (Nat.le_refl _) _) (Nat.le_refl _) _) _ | exact Grow.alloc (Below.setCell (Below.setCell (Grow.drew HG9.out) (Nat.le_refl _) _) (Nat.le_refl _) _) _ | exact ((Grow.refl _).alloc _).alloc _ | exact Grow.alloc (Below.setCell HG3.out (Nat.le_refl _) _) _ | exact Grow.alloc (Below.setCell ((Grow.refl _).alloc _) (Nat.le_refl _) _) _ | exact Grow.alloc (Grow.drew (Below.setCell (Below.setCell ((Grow.refl _).alloc _) (Nat.le_refl _) _) (Nat.le_refl _) _)) _ | exact Grow.alloc (Below.setCell (Below.setCell ((Grow.refl _).alloc _) (Nat.le_refl _) _) (Nat.le_refl _) _) _ | exact (((Grow.refl _).alloc _).drew).alloc _)).ow _ (⟨op, d, a, (r : Int)⟩) 1 rfl (news_gen _ _ (by simp) (encL (⟨op, d, a, (r : Int)⟩)) _) (by simp; try omega) (by have := HT.out.sz; simp; omega) ?_; intro out2 w2 hown2 hgr2)
              have HT2 := Lib.hid (HT.out.app (y := ⟨op, d, a, (r : Int)⟩) (by first | exact Grow.alloc (Grow.drew (Below.setCell (Below.setCell HG9.out (Nat.le_refl _) _) (Nat.le_refl _) _)) _ | exact Grow.alloc (Below.setCell (Below.setCell HG9.out (Nat.le_refl _) _) (Nat.le_refl _) _) _ | exact Grow.alloc (Below.setCell (Below.setCell (Grow.drew HG9.out) (Nat.le_refl _) _) (Nat.le_refl _) _) _ | exact ((Grow.refl _).alloc _).alloc _ | exact Grow.alloc (Below.setCell HG3.out (Nat.le_refl _) _) _ | exact Grow.alloc (Below.setCell ((Grow.refl _).alloc _) (Nat.le_refl _) _) _ | exact Grow.alloc (Grow.drew (Below.setCell (Below.setCell ((Grow.refl _).alloc _) (Nat.le_refl _) _) (Nat.le_refl _) _)) _ | exact Grow.alloc (Below.setCell (Below.setCell ((Grow.refl _).alloc _) (Nat.le_refl _) _) (Nat.le_refl _) _) _ | exact (((Grow.refl _).alloc _).drew).alloc _) hown2 hgr2)
              clear hown2 hgr2
              go_roundw
              case rel => exact ⟨r + 1, by omega, by go_num, by rw [snoc_range _ _ r]; exact HT2.out⟩
              case measure => simp [intOf]; omega
            · have hr4 : r = 4 := by omega
              subst hr4
              go_wp2_with fail
              go_roundw
              case rel => exact ⟨_, .inr (.inr (.inr ( ⟨by first | rfl | go_num, rfl⟩))), HT.out⟩
              case measure => simp [intOf]
        · obtain ⟨e0, e1, e2, e3⟩ := box4 HT.out.bx
          have hz := lt_of_block HT.out.bx
          go_wp2_with fail
          have hb9 := heap_alloc_new wr (.cells #[.int .i64 op, .int .i64 d, .int .i64 a, .int .i64 b] 25)
          have hg9 : Grow wr (wr.alloc (.cells #[.int .i64 op, .int .i64 d, .int .i64 a, .int .i64 b] 25)) := (Grow.refl wr).alloc _
          have hl9 := hg9.blk HT.out.bx
          clear e0 e1 e2 e3 hz
          generalize wr.alloc (.cells #[.int .i64 op, .int .i64 d, .int .i64 a, .int .i64 b] 25) = W at hb9 hg9 hl9 ⊢
          obtain ⟨e0, e1, e2, e3⟩ := box4 hl9
          obtain ⟨m0, m1, m2, m3⟩ := box4 hb9
          have z2 := frz hb9 2
          have z3 := frz hb9 3
          have hz := lt_of_block hl9
          have hz9 := lt_of_block hb9
          have HG9 := Lib.hid hg9
          have hne9 : wr.heap.size ≠ w.heap.size := by have := HT.out.sz; omega
          have hwl9 : w.heap.size < wr.heap.size := by have := HT.out.sz; omega
          have y2 : (W.setCell ⟨wr.heap.size, 2, none⟩ (.int .i64 b)).drew.cell? ⟨w.heap.size, 2, none⟩ = some (.int .i64 a) := (Below.cell (p := ⟨w.heap.size, 2, none⟩) (Below.setCell (Below.refl wr.heap.size W) (Nat.le_refl _) _) hwl9).trans e2
          have y3 : (W.setCell ⟨wr.heap.size, 2, none⟩ (.int .i64 b)).drew.frozen? ⟨wr.heap.size, 3, none⟩ = false := (World.frozen?_setCell _ _ _ _).trans z3
          clear hb9 hg9 hl9
          go_region
          go_wp2_with (at_builtin; refine wpList_app _ rfl (.tmp 73) (.tmp 75) 22 rfl (w.heap.size + 1) 25 Tryz.underlying22 info_ln rfl (by decide) (by decide) encL encL_len encL_one _ ((([⟨0, 0, 0, 0⟩, ⟨op, d, a, b⟩, ⟨op, d, a, b⟩] : List Ln) ++ ((List.range 4).map fun n : Nat => (⟨op, (n : Int), a, b⟩ : Ln)) ++ ((List.range 4).map fun n : Nat => (⟨op, d, (n : Int), b⟩ : Ln)) ++ ((List.range 4).map fun n : Nat => (⟨op, d, a, (n : Int)⟩ : Ln)))) rfl (HT.out.grow (Grow.drew (Grow.alloc (Below.setCell (Below.setCell HG9.out (Nat.le_refl _) _) (Nat.le_refl _) _) _))).ow _ (⟨op, d, b, a⟩) 1 rfl (news_drewG _ _ (by simp) (encL (⟨op, d, b, a⟩)) _) (by simp; try omega) (by have := HT.out.sz; simp; omega) ?_; intro out2 w2 hown2 hgr2; have HT2 := Lib.hid (HT.out.app (y := ⟨op, d, b, a⟩) (Grow.drew (Grow.alloc (Below.setCell (Below.setCell HG9.out (Nat.le_refl _) _) (Nat.le_refl _) _) _)) hown2 hgr2); clear hown2 hgr2; obtain ⟨g0, g1, g2, g3⟩ := box4 HT2.out.bx; have hzg := lt_of_block HT2.out.bx)
          clear HT e0 e1 e2 e3 hz m0 m1 m2 m3 z2 z3 hz9 HG9 hne9 hwl9 y2 y3
          have HT := HT2
          clear HT2
          refine swithin_any _ _ _ _ _ ?_
          rw [inB_true.2 ⟨h3, h6⟩]
          go_wp2_with fail
          go_loopw [3, 10] (fun out o wr => ∃ j k : Nat, k = 3 + j ∧ j ≤ 4 ∧ o = .int .i64 k ∧ TI w (⟨op, d, a, b⟩ : Ln) ((([⟨0, 0, 0, 0⟩, ⟨op, d, a, b⟩, ⟨op, d, a, b⟩] : List Ln) ++ ((List.range 4).map fun n : Nat => (⟨op, (n : Int), a, b⟩ : Ln)) ++ ((List.range 4).map fun n : Nat => (⟨op, d, (n : Int), b⟩ : Ln)) ++ ((List.range 4).map fun n : Nat => (⟨op, d, a, (n : Int)⟩ : Ln))) ++ [⟨op, d, b, a⟩] ++ (List.range j).map (fun n : Nat => (⟨3 + (n : Int), d, a, b⟩ : Ln))) out wr) (fun _ o _ => (7 - intOf o).toNat)
          case atStart => exact ⟨0, 3, rfl, by omega, rfl, by rw [List.range_zero, List.map_nil, List.append_nil]; exact HT.out⟩
          case round =>
            obtain ⟨j, k, hk, hj, rfl, ht⟩ := hrel
            clear HT g0 g1 g2 g3 hzg
            have HT := Lib.hid ht
            have HK := Lib.hid hk
            obtain ⟨e0, e1, e2, e3⟩ := box4 ht.bx
            have hz := lt_of_block ht.bx
            clear ht
            by_cases hlt : j < 4
            · have hlt2 : (k : Int) ≤ 6 := by omega
              clear hk
              go_wp2_with (at_builtin; refine wpList_app _ rfl (.tmp 87) (.tmp 89) 22 rfl (w.heap.size + 1) 25 Tryz.underlying22 info_ln rfl (by decide) (by decide) encL encL_len encL_one _ ((([⟨0, 0, 0, 0⟩, ⟨op, d, a, b⟩, ⟨op, d, a, b⟩] : List Ln) ++ ((List.range 4).map fun n : Nat => (⟨op, (n : Int), a, b⟩ : Ln)) ++ ((List.range 4).map fun n : Nat => (⟨op, d, (n : Int), b⟩ : Ln)) ++ ((List.range 4).map fun n : Nat => (⟨op, d, a, (n : Int)⟩ : Ln))) ++ [⟨op, d, b, a⟩] ++ (List.range j).map (fun n : Nat => (⟨3 + (n : Int), d, a, b⟩ : Ln))) rfl (HT.out.grow (by first | exact Grow.alloc (Grow.drew (Below.setCell (Below.setCell HG9.out (Nat.le_refl _) _) (Nat.le_refl _) _)) _ | exact Grow.alloc (Below.setCell (Below.setCell HG9.out (Nat.le_refl _) _) (Nat.le_refl _) _) _ | exact Grow.alloc (Below.setCell (Below.setCell (Grow.drew HG9.out) (Nat.le_refl _) _) (Nat.le_refl _) _) _ | exact ((Grow.refl _).alloc _).alloc _ | exact Grow.alloc (Below.setCell HG3.out (Nat.le_refl _) _) _ | exact Grow.alloc (Below.setCell ((Grow.refl _).alloc _) (Nat.le_refl _) _) _ | exact Grow.alloc (Grow.drew (Below.setCell (Below.setCell ((Grow.refl _).alloc _) (Nat.le_refl _) _) (Nat.le_refl _) _)) _ | exact Grow.alloc (Below.setCell (Below.setCell ((Grow.refl _).alloc _) (Nat.le_refl _) _) (Nat.le_refl _) _) _ | exact (((Grow.refl _).alloc _).drew).alloc _)).ow _ (⟨(k : Int), d, a, b⟩) 1 rfl (news_gen _ _ (by simp) (encL (⟨(k : Int), d, a, b⟩)) _) (by simp; try omega) (by have := HT.out.sz; simp; omega) ?_; intro out2 w2 hown2 hgr2)
              have HT2 := Lib.hid (HT.out.app (y := ⟨(k : Int), d, a, b⟩) (by first | exact Grow.alloc (Grow.drew (Below.setCell (Below.setCell HG9.out (Nat.le_refl _) _) (Nat.le_refl _) _)) _ | exact Grow.alloc (Below.setCell (Below.setCell HG9.out (Nat.le_refl _) _) (Nat.le_refl _) _) _ | exact Grow.alloc (Below.setCell (Below.setCell (Grow.drew HG9.out) (Nat.le_refl _) _) (Nat.le_refl _) _) _ | exact ((Grow.refl _).alloc _).alloc _ | exact Grow.alloc (Below.setCell HG3.out (Nat.le_refl _) _) _ | exact Grow.alloc (Below.setCell ((Grow.refl _).alloc _) (Nat.le_refl _) _) _ | exact Grow.alloc (Grow.drew (Below.setCell (Below.setCell ((Grow.refl _).alloc _) (Nat.le_refl _) _) (Nat.le_refl _) _)) _ | exact Grow.alloc (Below.setCell (Below.setCell ((Grow.refl _).alloc _) (Nat.le_refl _) _) (Nat.le_refl _) _) _ | exact (((Grow.refl _).alloc _).drew).alloc _) hown2 hgr2)
              clear hown2 hgr2
              go_roundw
              case rel => exact ⟨j + 1, k + 1, by have := HK.out; omega, by omega, by go_num, by rw [snoc_range _ _ j, show (3 + (j : Int)) = (k : Int) by have := HK.out; omega]; exact HT2.out⟩
              case measure => simp [intOf]; omega
            · have hj4 : j = 4 := by omega
              subst hj4
              subst hk
              obtain ⟨g, cap, rfl, hg1, hg2, hc1, hc2, hrow⟩ := HT.out.end_ (by simp)
              have HROW := Lib.hid hrow
              clear hrow
              go_wp2_with fail
              refine svalid_any ((([⟨0, 0, 0, 0⟩, ⟨op, d, a, b⟩, ⟨op, d, a, b⟩] : List Ln) ++ ((List.range 4).map fun n : Nat => (⟨op, (n : Int), a, b⟩ : Ln)) ++ ((List.range 4).map fun n : Nat => (⟨op, d, (n : Int), b⟩ : Ln)) ++ ((List.range 4).map fun n : Nat => (⟨op, d, a, (n : Int)⟩ : Ln))) ++ [⟨op, d, b, a⟩] ++ (List.range 4).map (fun n : Nat => (⟨3 + (n : Int), d, a, b⟩ : Ln))) op d a b g 20 cap w.heap.size _ (by simp) HROW.out hg2 (by omega) (by simpa using hc1) hc2 (by decide) _ ?_
              intro w3 hb3 hg3 hr3
              have hle : (validL ((([⟨0, 0, 0, 0⟩, ⟨op, d, a, b⟩, ⟨op, d, a, b⟩] : List Ln) ++ ((List.range 4).map fun n : Nat => (⟨op, (n : Int), a, b⟩ : Ln)) ++ ((List.range 4).map fun n : Nat => (⟨op, d, (n : Int), b⟩ : Ln)) ++ ((List.range 4).map fun n : Nat => (⟨op, d, a, (n : Int)⟩ : Ln))) ++ [⟨op, d, b, a⟩] ++ (List.range 4).map (fun n : Nat => (⟨3 + (n : Int), d, a, b⟩ : Ln))) (⟨op, d, a, b⟩ : Ln)).length ≤ cap := Nat.le_trans (validL_len _ _) hc1
              have HF := Lib.hid (HR.out _ _ (Below.trans HT.out.g hb3) (hr3.slc hg3 hle hc2))
              clear hb3 hr3
              go_wp2_with fail
              exact HF.out
end Go.Proofs.YtbccbokjecdaaaaGreat

namespace Go.Proofs.YtbccbokjecdaaaaGreat
open Go.RowKit

/-- The row that All has gathered. -/
structure AL (w : World) (xs : List Ln) (out : Value) (wr : World) : Prop where
  g : Grow w wr
  ow : wr.ownsRow w.heap.size 25 4 out xs.length (xs.flatMap encL)
theorem AL.grow {w : World} {xs : List Ln} {out : Value} {wr W : World} (h : AL w xs out wr) (g : Grow wr W) : AL w xs out W := ⟨h.g.trans g, g.owns h.ow⟩
theorem AL.app {w : World} {y : Ln} {xs : List Ln} {out out' : Value} {wr W w2 : World} (h : AL w xs out wr) (g : Grow wr W) (ho : w2.ownsRow w.heap.size 25 4 out' (xs ++ [y]).length ((xs ++ [y]).flatMap encL)) (hg : W.grownBy w2 out.ownBlock) : AL w (xs ++ [y]) out' w2 :=
  have h2 := h.grow g
  ⟨grown_below h2.ow hg (by omega) h2.g.sz h2.g, ho⟩
theorem AL.end_ {w : World} {xs : List Ln} {out : Value} {wr : World} (h : AL w xs out wr) (hp : 0 < xs.length) : ∃ g cap, out = .slice (some ⟨g, 0, none⟩) xs.length cap ∧ w.heap.size ≤ g ∧ g < wr.heap.size ∧ xs.length ≤ cap ∧ cap ≤ 9223372036854775807 ∧ RowL wr g 0 xs := by
  have hr := h.ow
  rcases h.ow.2 with ⟨_, h0⟩ | ⟨g, cap, cur, rfl, hg, hh, _⟩
  · omega
  · obtain ⟨_, c, e, h1, h2, _⟩ := slc_of_owns encL_len h.ow
    cases e
    exact ⟨g, cap, rfl, hg, lt_of_block hh, h1, h2, RowL.of_own h.ow⟩

theorem flat_len {α : Type} (f : Nat → List α) (m : Nat) (h : ∀ k, (f k).length ≤ m) : ∀ n, ((List.range n).flatMap f).length ≤ m * n
  | 0 => by simp
  | n + 1 => by
    rw [range_flat, List.length_append]
    have := flat_len f m h n
    have := h n
    rw [Nat.mul_succ]; omega
theorem okOf_len (l : Ln) : (okOf l).length ≤ 1 := by unfold okOf; split <;> simp
theorem allB_len (op d a : Int) (n : Nat) : (allB op d a n).length ≤ n := by have := flat_len (fun b : Nat => okOf ⟨op, d, a, (b : Int)⟩) 1 (fun _ => okOf_len _) n; unfold allB; omega
theorem allA_len (op d : Int) (n : Nat) : (allA op d n).length ≤ 4 * n := flat_len (fun a : Nat => allB op d ((a : Int) - 9) 4) 4 (fun _ => allB_len _ _ _ _) n
theorem allD_len (op : Int) (n : Nat) : (allD op n).length ≤ 76 * n := flat_len (fun d : Nat => allA op (d : Int) 19) 76 (fun d => Nat.le_trans (allA_len op (d : Int) 19) (by omega)) n
theorem allO_len (n : Nat) : (allO n).length ≤ 684 * n := flat_len (fun o : Nat => allD (o : Int) 9) 684 (fun o => Nat.le_trans (allD_len (o : Int) 9) (by omega)) n
theorem all_len (o j m r : Nat) (x : Int) (ho : o < 8) (hj : j < 9) (hm : m < 19) (hr : r < 4) : (allO o ++ allD o j ++ allA o j m ++ allB o j x r).length < 100000000000 := by
  have h1 := allO_len o
  have h2 := allD_len o j
  have h3 := allA_len o j m
  have h4 := allB_len o j x r
  simp only [List.length_append]
  omega

set_option maxRecDepth 100000 in
set_option maxHeartbeats 16000000 in
theorem All_any (w : World) (R : Ending → World → Prop)
    (hR : ∀ w' g cap, Below w.heap.size w w' → w.heap.size ≤ g → g < w'.heap.size → allR.length ≤ cap → cap ≤ 9223372036854775807 → RowL w' g 0 allR → R (.returned (.slice (some ⟨g, 0, none⟩) allR.length cap)) w') :
    Calls Tryz.prog 155 #[] w R := by
  have HR := Lib.hid hR
  clear hR
  go_enter Tryz.func155, Tryz.ntmps155
  go_wp2_with fail
  go_loopw [1, 2] (fun out op wr => ∃ o : Nat, o ≤ 8 ∧ op = .int .i64 o ∧ AL w (allO o) out wr) (fun _ op _ => (8 - intOf op).toNat)
  case atStart => exact ⟨0, by omega, rfl, Grow.refl _, World.ownsRow_nil _ _ _ _⟩
  case round =>
    obtain ⟨o, ho, rfl, ha⟩ := hrel
    have HA := Lib.hid ha
    clear ha
    by_cases hlt : o < 8
    · have hlt2 : (o : Int) ≤ 7 := by omega
      go_wp2_with fail
      obtain ⟨wo, rfl⟩ : ∃ wo : World, wo = wr := ⟨_, rfl⟩
      go_loopw [1, 11] (fun out d wr => ∃ j : Nat, j ≤ 9 ∧ d = .int .i64 j ∧ AL w (allO o ++ allD o j) out wr) (fun _ d _ => (9 - intOf d).toNat)
      case atStart => exact ⟨0, by omega, rfl, by show AL w (allO o ++ []) _ _; rw [List.append_nil]; exact HA.out⟩
      case round =>
        obtain ⟨j, hj, rfl, ha⟩ := hrel
        clear HA
        have HA := Lib.hid ha
        clear ha
        by_cases hltj : j < 9
        · have hltj2 : (j : Int) < 9 := by omega
          go_wp2_with fail
          obtain ⟨wj, rfl⟩ : ∃ wj : World, wj = wr := ⟨_, rfl⟩
          go_loopw [1, 4] (fun out a wr => ∃ (m : Nat) (x : Int), m ≤ 19 ∧ x = (m : Int) - 9 ∧ a = .int .i64 x ∧ AL w (allO o ++ allD o j ++ allA o j m) out wr) (fun _ a _ => (10 - intOf a).toNat)
          case atStart => exact ⟨0, -9, by omega, by omega, rfl, by show AL w (allO o ++ allD o j ++ []) _ _; rw [List.append_nil]; exact HA.out⟩
          case round =>
            obtain ⟨m, x, hm, hx, rfl, ha⟩ := hrel
            clear HA
            have HA := Lib.hid ha
            have HX := Lib.hid hx
            clear ha
            by_cases hltm : m < 19
            · have hx1 : x ≤ 9 := by omega
              have hx0 : -9 ≤ x := by omega
              clear hx
              go_wp2_with fail
              obtain ⟨wm, rfl⟩ : ∃ wm : World, wm = wr := ⟨_, rfl⟩
              go_loopw [1, 18] (fun out b wr => ∃ r : Nat, r ≤ 4 ∧ b = .int .i64 r ∧ AL w (allO o ++ allD o j ++ allA o j m ++ allB o j x r) out wr) (fun _ b _ => (4 - intOf b).toNat)
              case atStart => exact ⟨0, by omega, rfl, by show AL w (allO o ++ allD o j ++ allA o j m ++ []) _ _; rw [List.append_nil]; exact HA.out⟩
              case round =>
                obtain ⟨r, hr, rfl, ha⟩ := hrel
                clear HA
                have HA := Lib.hid ha
                clear ha
                by_cases hltr : r < 4
                · have hltr2 : (r : Int) < 4 := by omega
                  have HLEN := Lib.hid (all_len o j m r x hlt hltj hltm hltr)
                  have HN := Lib.hid (allB_succ o j x r)
                  go_wp2_with fail
                  have hb := heap_alloc_new wr (.cells #[.int .i64 o, .int .i64 j, .int .i64 x, .int .i64 r] 25)
                  have hg := (Grow.refl wr).alloc (.cells #[.int .i64 o, .int .i64 j, .int .i64 x, .int .i64 r] 25)
                  refine validateLine_any o j x r _ _ ?_
                  intro w1 hg1
                  have HG := Lib.hid (hg.trans hg1)
                  have hb1 := hg1.blk hb
                  obtain ⟨e0, e1, e2, e3⟩ := box4 hb1
                  have hz := lt_of_block hb1
                  clear hb hg hg1 hb1
                  cases hv : vL o j x r with
                  | false =>
                    rw [errB_false]
                    have HV := Lib.hid hv
                    clear hv
                    go_wp2_with fail
                    go_roundw
                    case rel =>
                      refine ⟨r + 1, by omega, by go_num, ?_⟩
                      rw [HN.out, show okOf ⟨(o : Int), (j : Int), x, (r : Int)⟩ = [] from by unfold okOf Ln.ok; rw [HV.out]; rfl, List.append_nil]
                      exact HA.out.grow HG.out
                    case measure => simp [intOf]; omega
                  | true =>
                    rw [errB_true]
                    have HV := Lib.hid hv
                    clear hv
                    go_wp2_with (at_builtin; refine wpList_app _ rfl (.tmp 29) (.tmp 31) 22 rfl w.heap.size 25 Tryz.underlying22 info_ln rfl (by decide) (by decide) encL encL_len encL_one _ (allO o ++ allD o j ++ allA o j m ++ allB o j x r) rfl (HA.out.grow (HG.out.alloc _)).ow _ (⟨o, j, x, r⟩ : Ln) 1 rfl (news_gen _ _ (by simp) (encL ⟨o, j, x, r⟩) _) HLEN.out (by have := HA.out.g.sz; have := HG.out.sz; simp; omega) ?_; intro out2 w2 hown2 hgr2)
                    have HA2 := Lib.hid (HA.out.app (y := ⟨o, j, x, r⟩) (HG.out.alloc _) hown2 hgr2)
                    clear hown2 hgr2
                    go_roundw
                    case rel =>
                      refine ⟨r + 1, by omega, by go_num, ?_⟩
                      rw [HN.out, show okOf ⟨(o : Int), (j : Int), x, (r : Int)⟩ = [⟨(o : Int), (j : Int), x, (r : Int)⟩] from by unfold okOf Ln.ok; rw [HV.out]; rfl, ← List.append_assoc]
                      exact HA2.out
                    case measure => simp [intOf]; omega
                · have hr4 : r = 4 := by omega
                  subst hr4
                  go_wp2_with fail
                  go_roundw
                  case rel =>
                    refine ⟨m + 1, x + 1, by omega, by have := HX.out; omega, rfl, ?_⟩
                    rw [allA_succ, ← HX.out, ← List.append_assoc]
                    exact HA.out
                  case measure => simp [intOf]; omega
            · have hm19 : m = 19 := by omega
              subst hm19
              have hx10 : x = 10 := by omega
              subst hx10
              clear hx HX
              go_wp2_with fail
              go_roundw
              case rel =>
                refine ⟨j + 1, by omega, by go_num, ?_⟩
                rw [allD_succ, ← List.append_assoc]
                exact HA.out
              case measure => simp [intOf]; omega
        · have hj9 : j = 9 := by omega
          subst hj9
          go_wp2_with fail
          go_roundw
          case rel =>
            refine ⟨o + 1, by omega, by go_num, ?_⟩
            rw [allO_succ]
            exact HA.out
          case measure => simp [intOf]; omega
    · have ho8 : o = 8 := by omega
      subst ho8
      have hlen : (allO 8).length = allR.length := by rw [allR_eq]
      obtain ⟨g, cap, rfl, hg1, hg2, hc1, hc2, hrow⟩ := HA.out.end_ (by rw [hlen]; decide)
      have HROW := Lib.hid hrow
      have HL := Lib.hid hlen
      clear hrow hlen
      go_wp2_with fail
      refine ordered_any (allO 8) g _ cap w.heap.size _ rfl HROW.out hg2 hg1 hc1 hc2 (by have := allO_len 8; omega) _ ?_
      intro w3 hb3 hg3 hr3
      rw [ordL_all] at hr3 ⊢
      have HF := Lib.hid (HR.out _ g cap (Below.trans HA.out.g hb3) hg1 hg3 (by rw [← HL.out]; exact hc1) hc2 hr3)
      clear hb3 hr3
      go_wp2_with fail
      exact HF.out
end Go.Proofs.YtbccbokjecdaaaaGreat

namespace Go.Proofs.YtbccbokjecdaaaaGreat
open Go.RowKit

set_option maxHeartbeats 1000000 in
theorem cloneLn_any (xs : List Ln) (v : Value) (w : World) (hx : SlcAt 4 encL w v xs) (hn : xs.length < 10000000000) (R : Ending → World → Prop) (hR : ∀ w' x, Grow w w' → Own 4 encL w.heap.size w' x xs → R (.returned x) w') :
    Calls Tryz.prog 154 #[v] w R := by
  have hx' := hx
  obtain ⟨a, c, rfl, h1, h2, h3⟩ := hx'
  have HX := Lib.hid hx
  have HR := Lib.hid hR
  clear hx hR
  have heq := fun (W : World) (a : Option Addr) (n c : Nat) => Lib.run_eql_slice_nil (P := Tryz.prog) W 22 25 a n c 0 0 Tryz.underlying22
  cases a with
  | none =>
    have hxs : xs = [] := by
      rcases h3 with ⟨h3, _⟩ | ⟨b, o, h3, _⟩
      · exact h3
      · cases h3
    subst hxs
    clear h3
    go_enter Tryz.func154, Tryz.ntmps154
    go_wp2_with fail
    exact HR.out _ _ (Grow.refl _) (Own.nil _ _ _ _)
  | some ad =>
    clear h3
    go_enter Tryz.func154, Tryz.ntmps154
    go_wp2_with (at_builtin; refine wpList_appAll _ rfl (.tmp 5) (.tmp 6) 22 rfl w.heap.size 25 Tryz.underlying22 info_ln rfl (by decide) (by decide) encL encL_len encL_one _ [] rfl (ownsRow_empty w 4 _ _ _ (Nat.le_refl _)) _ xs rfl (HX.out.grow ((Grow.refl w).alloc _)) (by simp; omega) (by simp) ?_; intro v1 w1 hown1 hgr1)
    exact HR.out _ _ (grown_below (ownsRow_empty w 4 25 encL _ (Nat.le_refl _)) hgr1 (Nat.le_refl _) (by simp) ((Grow.refl w).alloc _)) ⟨_, hown1⟩

end Go.Proofs.YtbccbokjecdaaaaGreat
