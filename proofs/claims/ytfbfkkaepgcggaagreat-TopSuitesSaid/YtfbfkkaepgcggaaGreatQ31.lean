/-
The walk of templates, by the operation.
The walk of All: all lines.
-/
import Derived.Test.YtfbfkkaepgcggaaGreatQ28
import Derived.Test.YtfbfkkaepgcggaaGreatQ12
namespace Go.Proofs.YtfbfkkaepgcggaaGreat
open Go.RowKit
theorem news_drewG (W : World) (n : Nat) (hn : W.heap.size = n) (cs : List Value) (t : TypeId) : ∀ j v, cs[j]? = some v → (W.alloc (.cells cs.toArray t)).drew.cell? ((⟨n, 0, none⟩ : Addr).add j) = some v := news_gen W n hn cs t
set_option maxRecDepth 100000 in
set_option maxHeartbeats 16000000 in
theorem templatesG_any (op d a b : Int) (w : World) (hop : 3 ≤ op ∧ op ≤ 6) (hok : vL op d a b = true) (R : Ending → World → Prop)
    (hR : ∀ w' v, Grow w w' → LinesAt w' v (tmpl ⟨op, d, a, b⟩) → R (.returned v) w') :
    Calls Tryz.prog 47 #[.agg #[.int .i64 op, .int .i64 d, .int .i64 a, .int .i64 b]] w R := by
  have _h := hok
  obtain ⟨h3, h6⟩ := hop
  have n1 : ¬ op = 1 := by omega
  have n2 : ¬ op = 2 := by omega
  have n7 : ¬ op = 7 := by omega
  have n0 : ¬ op = 0 := by omega
  have t1 : (op == 1) = false := by simp; omega
  have t2 : (op == 2) = false := by simp; omega
  have t7 : (op == 7) = false := by simp; omega
  have t0 : (op == 0) = false := by simp; omega
  have t3 : op ≥ 3 := h3
  have hraw : rawT (⟨op, d, a, b⟩ : Ln) = (([⟨0, 0, 0, 0⟩, ⟨op, d, a, b⟩, ⟨op, d, a, b⟩] : List Ln) ++ ((List.range 4).map fun n : Nat => (⟨op, (n : Int), a, b⟩ : Ln)) ++ ((List.range 4).map fun n : Nat => (⟨op, d, (n : Int), b⟩ : Ln)) ++ ((List.range 4).map fun n : Nat => (⟨op, d, a, (n : Int)⟩ : Ln))) ++ [⟨op, d, b, a⟩] ++ ((List.range 4).map fun n : Nat => (⟨3 + (n : Int), d, a, b⟩ : Ln)) := by simp [rawT, byL, fldL, setF, List.range_succ, n1, n2, n7, n0, h3, h6]
  have htm : tmpl (⟨op, d, a, b⟩ : Ln) = validL (rawT (⟨op, d, a, b⟩ : Ln)) (⟨op, d, a, b⟩ : Ln) := by unfold tmpl; rw [if_neg (by simp; omega)]
  rw [hraw] at htm
  rw [htm] at hR
  have HR := Lib.hid hR
  clear hR hraw htm hok
  go_enter Tryz.func47, Tryz.ntmps47
  go_wp2_with fail
  go_loopw [3, 4] (fun out by_ wr => ∃ xs, ((by_ = .int .i64 (-1) ∧ xs = [⟨0, 0, 0, 0⟩]) ∨ (by_ = .int .i64 1 ∧ xs = [⟨0, 0, 0, 0⟩, ⟨op, d, a, b⟩]) ∨ (by_ = .int .i64 3 ∧ xs = [⟨0, 0, 0, 0⟩, ⟨op, d, a, b⟩, ⟨op, d, a, b⟩])) ∧ TI w (⟨op, d, a, b⟩ : Ln) xs out wr) (fun _ by_ _ => (3 - intOf by_).toNat)
  case atStart =>
    refine ⟨_, .inl ⟨rfl, rfl⟩, ((Grow.refl _).alloc _).alloc _, heap_two0 _ _ _, ?_⟩
    have := World.ownsRow_lit (w.alloc (.cells #[.int .i64 op, .int .i64 d, .int .i64 a, .int .i64 b] 44)) (base := w.heap.size + 1) (e := 44) (size := 4) #[.int .i64 0, .int .i64 0, .int .i64 0, .int .i64 0] 1 (by simp) (by simp [maxLen]) rfl
    rw [World.size_alloc] at this
    exact this
  case round =>
    obtain ⟨xs, hc, ht⟩ := hrel
    have HT := Lib.hid ht
    obtain ⟨e0, e1, e2, e3⟩ := box4 ht.bx
    have hz := lt_of_block ht.bx
    clear ht
    rcases hc with ⟨rfl, rfl⟩ | ⟨rfl, rfl⟩ | ⟨rfl, rfl⟩
    · skip
      go_wp2_with (at_builtin; refine wpList_app _ rfl (.tmp 38) (.tmp 40) 23 rfl (w.heap.size + 1) 44 Tryz.underlying23 info_ln rfl (by decide) (by decide) encL encL_len encL_one _ ([⟨0, 0, 0, 0⟩]) rfl (HT.out.grow (by first | exact Grow.alloc (Grow.drew (Below.setCell (Below.setCell HG9.out (Nat.le_refl _) _) (Nat.le_refl _) _)) _ | exact Grow.alloc (Below.setCell (Below.setCell HG9.out (Nat.le_refl _) _) (Nat.le_refl _) _) _ | exact Grow.alloc (Below.setCell (Below.setCell (Grow.drew HG9.out) (Nat.le_refl _) _) (Nat.le_refl _) _) _ | exact ((Grow.refl _).alloc _).alloc _ | exact Grow.alloc (Below.setCell HG3.out (Nat.le_refl _) _) _ | exact Grow.alloc (Below.setCell ((Grow.refl _).alloc _) (Nat.le_refl _) _) _ | exact Grow.alloc (Grow.drew (Below.setCell (Below.setCell ((Grow.refl _).alloc _) (Nat.le_refl _) _) (Nat.le_refl _) _)) _ | exact Grow.alloc (Below.setCell (Below.setCell ((Grow.refl _).alloc _) (Nat.le_refl _) _) (Nat.le_refl _) _) _ | exact (((Grow.refl _).alloc _).drew).alloc _)).ow _ (⟨op, d, a, b⟩) 1 rfl (news_gen _ _ (by simp) (encL (⟨op, d, a, b⟩)) _) (by simp; try omega) (by have := HT.out.sz; simp; omega) ?_; intro out2 w2 hown2 hgr2)
      have HT2 := Lib.hid (HT.out.app (y := ⟨op, d, a, b⟩) (by first | exact Grow.alloc (Grow.drew (Below.setCell (Below.setCell HG9.out (Nat.le_refl _) _) (Nat.le_refl _) _)) _ | exact Grow.alloc (Below.setCell (Below.setCell HG9.out (Nat.le_refl _) _) (Nat.le_refl _) _) _ | exact Grow.alloc (Below.setCell (Below.setCell (Grow.drew HG9.out) (Nat.le_refl _) _) (Nat.le_refl _) _) _ | exact ((Grow.refl _).alloc _).alloc _ | exact Grow.alloc (Below.setCell HG3.out (Nat.le_refl _) _) _ | exact Grow.alloc (Below.setCell ((Grow.refl _).alloc _) (Nat.le_refl _) _) _ | exact Grow.alloc (Grow.drew (Below.setCell (Below.setCell ((Grow.refl _).alloc _) (Nat.le_refl _) _) (Nat.le_refl _) _)) _ | exact Grow.alloc (Below.setCell (Below.setCell ((Grow.refl _).alloc _) (Nat.le_refl _) _) (Nat.le_refl _) _) _ | exact (((Grow.refl _).alloc _).drew).alloc _) hown2 hgr2)
      clear hown2 hgr2
      go_roundw
      case rel => exact ⟨_, .inr (.inl ⟨by first | rfl | go_num, rfl⟩), HT2.out⟩
      case measure => simp [intOf]; done
    · skip
      go_wp2_with (at_builtin; refine wpList_app _ rfl (.tmp 38) (.tmp 40) 23 rfl (w.heap.size + 1) 44 Tryz.underlying23 info_ln rfl (by decide) (by decide) encL encL_len encL_one _ ([⟨0, 0, 0, 0⟩, ⟨op, d, a, b⟩]) rfl (HT.out.grow (by first | exact Grow.alloc (Grow.drew (Below.setCell (Below.setCell HG9.out (Nat.le_refl _) _) (Nat.le_refl _) _)) _ | exact Grow.alloc (Below.setCell (Below.setCell HG9.out (Nat.le_refl _) _) (Nat.le_refl _) _) _ | exact Grow.alloc (Below.setCell (Below.setCell (Grow.drew HG9.out) (Nat.le_refl _) _) (Nat.le_refl _) _) _ | exact ((Grow.refl _).alloc _).alloc _ | exact Grow.alloc (Below.setCell HG3.out (Nat.le_refl _) _) _ | exact Grow.alloc (Below.setCell ((Grow.refl _).alloc _) (Nat.le_refl _) _) _ | exact Grow.alloc (Grow.drew (Below.setCell (Below.setCell ((Grow.refl _).alloc _) (Nat.le_refl _) _) (Nat.le_refl _) _)) _ | exact Grow.alloc (Below.setCell (Below.setCell ((Grow.refl _).alloc _) (Nat.le_refl _) _) (Nat.le_refl _) _) _ | exact (((Grow.refl _).alloc _).drew).alloc _)).ow _ (⟨op, d, a, b⟩) 1 rfl (news_gen _ _ (by simp) (encL (⟨op, d, a, b⟩)) _) (by simp; try omega) (by have := HT.out.sz; simp; omega) ?_; intro out2 w2 hown2 hgr2)
      have HT2 := Lib.hid (HT.out.app (y := ⟨op, d, a, b⟩) (by first | exact Grow.alloc (Grow.drew (Below.setCell (Below.setCell HG9.out (Nat.le_refl _) _) (Nat.le_refl _) _)) _ | exact Grow.alloc (Below.setCell (Below.setCell HG9.out (Nat.le_refl _) _) (Nat.le_refl _) _) _ | exact Grow.alloc (Below.setCell (Below.setCell (Grow.drew HG9.out) (Nat.le_refl _) _) (Nat.le_refl _) _) _ | exact ((Grow.refl _).alloc _).alloc _ | exact Grow.alloc (Below.setCell HG3.out (Nat.le_refl _) _) _ | exact Grow.alloc (Below.setCell ((Grow.refl _).alloc _) (Nat.le_refl _) _) _ | exact Grow.alloc (Grow.drew (Below.setCell (Below.setCell ((Grow.refl _).alloc _) (Nat.le_refl _) _) (Nat.le_refl _) _)) _ | exact Grow.alloc (Below.setCell (Below.setCell ((Grow.refl _).alloc _) (Nat.le_refl _) _) (Nat.le_refl _) _) _ | exact (((Grow.refl _).alloc _).drew).alloc _) hown2 hgr2)
      clear hown2 hgr2
      go_roundw
      case rel => exact ⟨_, .inr (.inr ⟨by first | rfl | go_num, rfl⟩), HT2.out⟩
      case measure => simp [intOf]; done
    · go_wp2_with fail
      refine fieldsG_any op d a b w.heap.size _ ⟨h3, h6⟩ HT.out.bx _ ?_
      intro w1 hg1 _
      have HTF := Lib.hid (HT.out.grow hg1)
      clear hg1 HT e0 e1 e2 e3 hz
      go_wp2_with fail
      go_loopw [3, 44] (fun out k wr => ∃ xs, ((k = .int .i64 0 ∧ xs = (([⟨0, 0, 0, 0⟩, ⟨op, d, a, b⟩, ⟨op, d, a, b⟩] : List Ln))) ∨ (k = .int .i64 1 ∧ xs = (([⟨0, 0, 0, 0⟩, ⟨op, d, a, b⟩, ⟨op, d, a, b⟩] : List Ln) ++ ((List.range 4).map fun n : Nat => (⟨op, (n : Int), a, b⟩ : Ln)))) ∨ (k = .int .i64 2 ∧ xs = (([⟨0, 0, 0, 0⟩, ⟨op, d, a, b⟩, ⟨op, d, a, b⟩] : List Ln) ++ ((List.range 4).map fun n : Nat => (⟨op, (n : Int), a, b⟩ : Ln)) ++ ((List.range 4).map fun n : Nat => (⟨op, d, (n : Int), b⟩ : Ln)))) ∨ (k = .int .i64 3 ∧ xs = (([⟨0, 0, 0, 0⟩, ⟨op, d, a, b⟩, ⟨op, d, a, b⟩] : List Ln) ++ ((List.range 4).map fun n : Nat => (⟨op, (n : Int), a, b⟩ : Ln)) ++ ((List.range 4).map fun n : Nat => (⟨op, d, (n : Int), b⟩ : Ln)) ++ ((List.range 4).map fun n : Nat => (⟨op, d, a, (n : Int)⟩ : Ln))))) ∧ TI w (⟨op, d, a, b⟩ : Ln) xs out wr) (fun _ k _ => (3 - intOf k).toNat)
      case atStart => exact ⟨_, .inl ⟨rfl, rfl⟩, HTF.out⟩
      case round =>
        obtain ⟨xs, hc, ht⟩ := hrel
        have HT := Lib.hid ht
        clear ht HTF
        rcases hc with ⟨rfl, rfl⟩ | ⟨rfl, rfl⟩ | ⟨rfl, rfl⟩ | ⟨rfl, rfl⟩
        · go_wp2_with fail
          go_loopw [3, 47] (fun out i wr => ∃ r : Nat, r ≤ 4 ∧ i = .int .i64 r ∧ TI w (⟨op, d, a, b⟩ : Ln) ((([⟨0, 0, 0, 0⟩, ⟨op, d, a, b⟩, ⟨op, d, a, b⟩] : List Ln)) ++ (List.range r).map (fun n : Nat => (⟨op, (n : Int), a, b⟩ : Ln))) out wr) (fun _ i _ => (4 - intOf i).toNat)
          case atStart => exact ⟨0, by omega, rfl, by rw [List.range_zero, List.map_nil, List.append_nil]; exact HT.out⟩
          case round =>
            obtain ⟨r, hr, rfl, ht⟩ := hrel
            clear HT
            have HT := Lib.hid ht
            obtain ⟨e0, e1, e2, e3⟩ := box4 ht.bx
            have hz := lt_of_block ht.bx
            clear ht
            by_cases hlt : r < 4
            · have hlt2 : (r : Int) < 4 := by omega
              go_wp2_with fail
              refine fieldsG_any op d a b wr.heap.size _ ⟨h3, h6⟩ (heap_alloc_new _ _) _ ?_
              intro w3 hg3 hp3
              rw [World.size_alloc] at hp3 ⊢
              have hm3 := hg3.blk (heap_alloc_new wr (.cells #[.int .i64 op, .int .i64 d, .int .i64 a, .int .i64 b] 44))
              have HG3 := Lib.hid (((Grow.refl wr).alloc _).trans hg3)
              obtain ⟨f0, f1, f2, f3⟩ := box4 hm3
              have p0 := cellOf hp3 0 rfl
              have p1 := cellOf hp3 1 rfl
              have p2 := cellOf hp3 2 rfl
              have z3 := frz hm3 1
              have hzm := lt_of_block hm3
              have hzp := lt_of_block hp3
              clear hg3 hp3 hm3 e0 e1 e2 e3
              go_wp2_with (at_builtin; refine wpList_app _ rfl (.tmp 57) (.tmp 59) 23 rfl (w.heap.size + 1) 44 Tryz.underlying23 info_ln rfl (by decide) (by decide) encL encL_len encL_one _ ((([⟨0, 0, 0, 0⟩, ⟨op, d, a, b⟩, ⟨op, d, a, b⟩] : List Ln)) ++ (List.range r).map (fun n : Nat => (⟨op, (n : Int), a, b⟩ : Ln))) rfl (HT.out.grow (by first | exact Grow.alloc (Grow.drew (Below.setCell (Below.setCell HG9.out (Nat.le_refl _) _) (Nat.le_refl _) _)) _ | exact Grow.alloc (Below.setCell (Below.setCell HG9.out (Nat.le_refl _) _) (Nat.le_refl _) _) _ | exact Grow.alloc (Below.setCell (Below.setCell (Grow.drew HG9.out) (Nat.le_refl _) _) (Nat.le_refl _) _) _ | exact ((Grow.refl _).alloc _).alloc _ | exact Grow.alloc (Below.setCell HG3.out (Nat.le_refl _) _) _ | exact Grow.alloc (Below.setCell ((Grow.refl _).alloc _) (Nat.le_refl _) _) _ | exact Grow.alloc (Grow.drew (Below.setCell (Below.setCell ((Grow.refl _).alloc _) (Nat.le_refl _) _) (Nat.le_refl _) _)) _ | exact Grow.alloc (Below.setCell (Below.setCell ((Grow.refl _).alloc _) (Nat.le_refl _) _) (Nat.le_refl _) _) _ | exact (((Grow.refl _).alloc _).drew).alloc _)).ow _ (⟨op, (r : Int), a, b⟩) 1 rfl (news_gen _ _ (by simp) (encL (⟨op, (r : Int), a, b⟩)) _) (by simp; try omega) (by have := HT.out.sz; simp; omega) ?_; intro out2 w2 hown2 hgr2)
              have HT2 := Lib.hid (HT.out.app (y := ⟨op, (r : Int), a, b⟩) (by first | exact Grow.alloc (Grow.drew (Below.setCell (Below.setCell HG9.out (Nat.le_refl _) _) (Nat.le_refl _) _)) _ | exact Grow.alloc (Below.setCell (Below.setCell HG9.out (Nat.le_refl _) _) (Nat.le_refl _) _) _ | exact Grow.alloc (Below.setCell (Below.setCell (Grow.drew HG9.out) (Nat.le_refl _) _) (Nat.le_refl _) _) _ | exact ((Grow.refl _).alloc _).alloc _ | exact Grow.alloc (Below.setCell HG3.out (Nat.le_refl _) _) _ | exact Grow.alloc (Below.setCell ((Grow.refl _).alloc _) (Nat.le_refl _) _) _ | exact Grow.alloc (Grow.drew (Below.setCell (Below.setCell ((Grow.refl _).alloc _) (Nat.le_refl _) _) (Nat.le_refl _) _)) _ | exact Grow.alloc (Below.setCell (Below.setCell ((Grow.refl _).alloc _) (Nat.le_refl _) _) (Nat.le_refl _) _) _ | exact (((Grow.refl _).alloc _).drew).alloc _) hown2 hgr2)
              clear hown2 hgr2
              go_roundw
              case rel => exact ⟨r + 1, by omega, by go_num, by rw [snoc_range _ _ r]; exact HT2.out⟩
              case measure => simp [intOf]; omega
            · have hr4 : r = 4 := by omega
              subst hr4
              go_wp2_with fail
              go_roundw
              case rel => exact ⟨_, .inr (.inl ⟨by first | rfl | go_num, rfl⟩), HT.out⟩
              case measure => simp [intOf]
        · go_wp2_with fail
          go_loopw [3, 47] (fun out i wr => ∃ r : Nat, r ≤ 4 ∧ i = .int .i64 r ∧ TI w (⟨op, d, a, b⟩ : Ln) ((([⟨0, 0, 0, 0⟩, ⟨op, d, a, b⟩, ⟨op, d, a, b⟩] : List Ln) ++ ((List.range 4).map fun n : Nat => (⟨op, (n : Int), a, b⟩ : Ln))) ++ (List.range r).map (fun n : Nat => (⟨op, d, (n : Int), b⟩ : Ln))) out wr) (fun _ i _ => (4 - intOf i).toNat)
          case atStart => exact ⟨0, by omega, rfl, by rw [List.range_zero, List.map_nil, List.append_nil]; exact HT.out⟩
          case round =>
            obtain ⟨r, hr, rfl, ht⟩ := hrel
            clear HT
            have HT := Lib.hid ht
            obtain ⟨e0, e1, e2, e3⟩ := box4 ht.bx
            have hz := lt_of_block ht.bx
            clear ht
            by_cases hlt : r < 4
            · have hlt2 : (r : Int) < 4 := by omega
              go_wp2_with fail
              refine fieldsG_any op d a b wr.heap.size _ ⟨h3, h6⟩ (heap_alloc_new _ _) _ ?_
              intro w3 hg3 hp3
              rw [World.size_alloc] at hp3 ⊢
              have hm3 := hg3.blk (heap_alloc_new wr (.cells #[.int .i64 op, .int .i64 d, .int .i64 a, .int .i64 b] 44))
              have HG3 := Lib.hid (((Grow.refl wr).alloc _).trans hg3)
              obtain ⟨f0, f1, f2, f3⟩ := box4 hm3
              have p0 := cellOf hp3 0 rfl
              have p1 := cellOf hp3 1 rfl
              have p2 := cellOf hp3 2 rfl
              have z3 := frz hm3 2
              have hzm := lt_of_block hm3
              have hzp := lt_of_block hp3
              clear hg3 hp3 hm3 e0 e1 e2 e3
              go_wp2_with (at_builtin; refine wpList_app _ rfl (.tmp 57) (.tmp 59) 23 rfl (w.heap.size + 1) 44 Tryz.underlying23 info_ln rfl (by decide) (by decide) encL encL_len encL_one _ ((([⟨0, 0, 0, 0⟩, ⟨op, d, a, b⟩, ⟨op, d, a, b⟩] : List Ln) ++ ((List.range 4).map fun n : Nat => (⟨op, (n : Int), a, b⟩ : Ln))) ++ (List.range r).map (fun n : Nat => (⟨op, d, (n : Int), b⟩ : Ln))) rfl (HT.out.grow (by first | exact Grow.alloc (Grow.drew (Below.setCell (Below.setCell HG9.out (Nat.le_refl _) _) (Nat.le_refl _) _)) _ | exact Grow.alloc (Below.setCell (Below.setCell HG9.out (Nat.le_refl _) _) (Nat.le_refl _) _) _ | exact Grow.alloc (Below.setCell (Below.setCell (Grow.drew HG9.out) (Nat.le_refl _) _) (Nat.le_refl _) _) _ | exact ((Grow.refl _).alloc _).alloc _ | exact Grow.alloc (Below.setCell HG3.out (Nat.le_refl _) _) _ | exact Grow.alloc (Below.setCell ((Grow.refl _).alloc _) (Nat.le_refl _) _) _ | exact Grow.alloc (Grow.drew (Below.setCell (Below.setCell ((Grow.refl _).alloc _) (Nat.le_refl _) _) (Nat.le_refl _) _)) _ | exact Grow.alloc (Below.setCell (Below.setCell ((Grow.refl _).alloc _) (Nat.le_refl _) _) (Nat.le_refl _) _) _ | exact (((Grow.refl _).alloc _).drew).alloc _)).ow _ (⟨op, d, (r : Int), b⟩) 1 rfl (news_gen _ _ (by simp) (encL (⟨op, d, (r : Int), b⟩)) _) (by simp; try omega) (by have := HT.out.sz; simp; omega) ?_; intro out2 w2 hown2 hgr2)
              have HT2 := Lib.hid (HT.out.app (y := ⟨op, d, (r : Int), b⟩) (by first | exact Grow.alloc (Grow.drew (Below.setCell (Below.setCell HG9.out (Nat.le_refl _) _) (Nat.le_refl _) _)) _ | exact Grow.alloc (Below.setCell (Below.setCell HG9.out (Nat.le_refl _) _) (Nat.le_refl _) _) _ | exact Grow.alloc (Below.setCell (Below.setCell (Grow.drew HG9.out) (Nat.le_refl _) _) (Nat.le_refl _) _) _ | exact ((Grow.refl _).alloc _).alloc _ | exact Grow.alloc (Below.setCell HG3.out (Nat.le_refl _) _) _ | exact Grow.alloc (Below.setCell ((Grow.refl _).alloc _) (Nat.le_refl _) _) _ | exact Grow.alloc (Grow.drew (Below.setCell (Below.setCell ((Grow.refl _).alloc _) (Nat.le_refl _) _) (Nat.le_refl _) _)) _ | exact Grow.alloc (Below.setCell (Below.setCell ((Grow.refl _).alloc _) (Nat.le_refl _) _) (Nat.le_refl _) _) _ | exact (((Grow.refl _).alloc _).drew).alloc _) hown2 hgr2)
              clear hown2 hgr2
              go_roundw
              case rel => exact ⟨r + 1, by omega, by go_num, by rw [snoc_range _ _ r]; exact HT2.out⟩
              case measure => simp [intOf]; omega
            · have hr4 : r = 4 := by omega
              subst hr4
              go_wp2_with fail
              go_roundw
              case rel => exact ⟨_, .inr (.inr (.inl ⟨by first | rfl | go_num, rfl⟩)), HT.out⟩
              case measure => simp [intOf]
        · go_wp2_with fail
          go_loopw [3, 47] (fun out i wr => ∃ r : Nat, r ≤ 4 ∧ i = .int .i64 r ∧ TI w (⟨op, d, a, b⟩ : Ln) ((([⟨0, 0, 0, 0⟩, ⟨op, d, a, b⟩, ⟨op, d, a, b⟩] : List Ln) ++ ((List.range 4).map fun n : Nat => (⟨op, (n : Int), a, b⟩ : Ln)) ++ ((List.range 4).map fun n : Nat => (⟨op, d, (n : Int), b⟩ : Ln))) ++ (List.range r).map (fun n : Nat => (⟨op, d, a, (n : Int)⟩ : Ln))) out wr) (fun _ i _ => (4 - intOf i).toNat)
          case atStart => exact ⟨0, by omega, rfl, by rw [List.range_zero, List.map_nil, List.append_nil]; exact HT.out⟩
          case round =>
            obtain ⟨r, hr, rfl, ht⟩ := hrel
            clear HT
            have HT := Lib.hid ht
            obtain ⟨e0, e1, e2, e3⟩ := box4 ht.bx
            have hz := lt_of_block ht.bx
            clear ht
            by_cases hlt : r < 4
            · have hlt2 : (r : Int) < 4 := by omega
              go_wp2_with fail
              refine fieldsG_any op d a b wr.heap.size _ ⟨h3, h6⟩ (heap_alloc_new _ _) _ ?_
              intro w3 hg3 hp3
              rw [World.size_alloc] at hp3 ⊢
              have hm3 := hg3.blk (heap_alloc_new wr (.cells #[.int .i64 op, .int .i64 d, .int .i64 a, .int .i64 b] 44))
              have HG3 := Lib.hid (((Grow.refl wr).alloc _).trans hg3)
              obtain ⟨f0, f1, f2, f3⟩ := box4 hm3
              have p0 := cellOf hp3 0 rfl
              have p1 := cellOf hp3 1 rfl
              have p2 := cellOf hp3 2 rfl
              have z3 := frz hm3 3
              have hzm := lt_of_block hm3
              have hzp := lt_of_block hp3
              clear hg3 hp3 hm3 e0 e1 e2 e3
              go_wp2_with (at_builtin; refine wpList_app _ rfl (.tmp 57) (.tmp 59) 23 rfl (w.heap.size + 1) 44 Tryz.underlying23 info_ln rfl (by decide) (by decide) encL encL_len encL_one _ ((([⟨0, 0, 0, 0⟩, ⟨op, d, a, b⟩, ⟨op, d, a, b⟩] : List Ln) ++ ((List.range 4).map fun n : Nat => (⟨op, (n : Int), a, b⟩ : Ln)) ++ ((List.range 4).map fun n : Nat => (⟨op, d, (n : Int), b⟩ : Ln))) ++ (List.range r).map (fun n : Nat => (⟨op, d, a, (n : Int)⟩ : Ln))) rfl (HT.out.grow (by first | exact Grow.alloc (Grow.drew (Below.setCell (Below.setCell HG9.out (Nat.le_refl _) _) (Nat.le_refl _) _)) _ | exact Grow.alloc (Below.setCell (Below.setCell HG9.out (Nat.le_refl _) _) (Nat.le_refl _) _) _ | exact Grow.alloc (Below.setCell (Below.setCell (Grow.drew HG9.out) (Nat.le_refl _) _) (Nat.le_refl _) _) _ | exact ((Grow.refl _).alloc _).alloc _ | exact Grow.alloc (Below.setCell HG3.out (Nat.le_refl _) _) _ | exact Grow.alloc (Below.setCell ((Grow.refl _).alloc _) (Nat.le_refl _) _) _ | exact Grow.alloc (Grow.drew (Below.setCell (Below.setCell ((Grow.refl _).alloc _) (Nat.le_refl _) _) (Nat.le_refl _) _)) _ | exact Grow.alloc (Below.setCell (Below.setCell ((Grow.refl _).alloc _) (Nat.le_refl _) _) (Nat.le_refl _) _) _ | exact (((Grow.refl _).alloc _).drew).alloc _)).ow _ (⟨op, d, a, (r : Int)⟩) 1 rfl (news_gen _ _ (by simp) (encL (⟨op, d, a, (r : Int)⟩)) _) (by simp; try omega) (by have := HT.out.sz; simp; omega) ?_; intro out2 w2 hown2 hgr2)
              have HT2 := Lib.hid (HT.out.app (y := ⟨op, d, a, (r : Int)⟩) (by first | exact Grow.alloc (Grow.drew (Below.setCell (Below.setCell HG9.out (Nat.le_refl _) _) (Nat.le_refl _) _)) _ | exact Grow.alloc (Below.setCell (Below.setCell HG9.out (Nat.le_refl _) _) (Nat.le_refl _) _) _ | exact Grow.alloc (Below.setCell (Below.setCell (Grow.drew HG9.out) (Nat.le_refl _) _) (Nat.le_refl _) _) _ | exact ((Grow.refl _).alloc _).alloc _ | exact Grow.alloc (Below.setCell HG3.out (Nat.le_refl _) _) _ | exact Grow.alloc (Below.setCell ((Grow.refl _).alloc _) (Nat.le_refl _) _) _ | exact Grow.alloc (Grow.drew (Below.setCell (Below.setCell ((Grow.refl _).alloc _) (Nat.le_refl _) _) (Nat.le_refl _) _)) _ | exact Grow.alloc (Below.setCell (Below.setCell ((Grow.refl _).alloc _) (Nat.le_refl _) _) (Nat.le_refl _) _) _ | exact (((Grow.refl _).alloc _).drew).alloc _) hown2 hgr2)
              clear hown2 hgr2
              go_roundw
              case rel => exact ⟨r + 1, by omega, by go_num, by rw [snoc_range _ _ r]; exact HT2.out⟩
              case measure => simp [intOf]; omega
            · have hr4 : r = 4 := by omega
              subst hr4
              go_wp2_with fail
              go_roundw
              case rel => exact ⟨_, .inr (.inr (.inr ( ⟨by first | rfl | go_num, rfl⟩))), HT.out⟩
              case measure => simp [intOf]
        · obtain ⟨e0, e1, e2, e3⟩ := box4 HT.out.bx
          have hz := lt_of_block HT.out.bx
          go_wp2_with fail
          have hb9 := heap_alloc_new wr (.cells #[.int .i64 op, .int .i64 d, .int .i64 a, .int .i64 b] 44)
          have hg9 : Grow wr (wr.alloc (.cells #[.int .i64 op, .int .i64 d, .int .i64 a, .int .i64 b] 44)) := (Grow.refl wr).alloc _
          have hl9 := hg9.blk HT.out.bx
          clear e0 e1 e2 e3 hz
          generalize wr.alloc (.cells #[.int .i64 op, .int .i64 d, .int .i64 a, .int .i64 b] 44) = W at hb9 hg9 hl9 ⊢
          obtain ⟨e0, e1, e2, e3⟩ := box4 hl9
          obtain ⟨m0, m1, m2, m3⟩ := box4 hb9
          have z2 := frz hb9 2
          have z3 := frz hb9 3
          have hz := lt_of_block hl9
          have hz9 := lt_of_block hb9
          have HG9 := Lib.hid hg9
          have hne9 : wr.heap.size ≠ w.heap.size := by have := HT.out.sz; omega
          have hwl9 : w.heap.size < wr.heap.size := by have := HT.out.sz; omega
          have y2 : (W.setCell ⟨wr.heap.size, 2, none⟩ (.int .i64 b)).drew.cell? ⟨w.heap.size, 2, none⟩ = some (.int .i64 a) := (Below.cell (p := ⟨w.heap.size, 2, none⟩) (Below.setCell (Below.refl wr.heap.size W) (Nat.le_refl _) _) hwl9).trans e2
          have y3 : (W.setCell ⟨wr.heap.size, 2, none⟩ (.int .i64 b)).drew.frozen? ⟨wr.heap.size, 3, none⟩ = false := (World.frozen?_setCell _ _ _ _).trans z3
          clear hb9 hg9 hl9
          go_region
          go_wp2_with (at_builtin; refine wpList_app _ rfl (.tmp 73) (.tmp 75) 23 rfl (w.heap.size + 1) 44 Tryz.underlying23 info_ln rfl (by decide) (by decide) encL encL_len encL_one _ ((([⟨0, 0, 0, 0⟩, ⟨op, d, a, b⟩, ⟨op, d, a, b⟩] : List Ln) ++ ((List.range 4).map fun n : Nat => (⟨op, (n : Int), a, b⟩ : Ln)) ++ ((List.range 4).map fun n : Nat => (⟨op, d, (n : Int), b⟩ : Ln)) ++ ((List.range 4).map fun n : Nat => (⟨op, d, a, (n : Int)⟩ : Ln)))) rfl (HT.out.grow (Grow.drew (Grow.alloc (Below.setCell (Below.setCell HG9.out (Nat.le_refl _) _) (Nat.le_refl _) _) _))).ow _ (⟨op, d, b, a⟩) 1 rfl (news_drewG _ _ (by simp) (encL (⟨op, d, b, a⟩)) _) (by simp; try omega) (by have := HT.out.sz; simp; omega) ?_; intro out2 w2 hown2 hgr2; have HT2 := Lib.hid (HT.out.app (y := ⟨op, d, b, a⟩) (Grow.drew (Grow.alloc (Below.setCell (Below.setCell HG9.out (Nat.le_refl _) _) (Nat.le_refl _) _) _)) hown2 hgr2); clear hown2 hgr2; obtain ⟨g0, g1, g2, g3⟩ := box4 HT2.out.bx; have hzg := lt_of_block HT2.out.bx)
          clear HT e0 e1 e2 e3 hz m0 m1 m2 m3 z2 z3 hz9 HG9 hne9 hwl9 y2 y3
          have HT := HT2
          clear HT2
          refine swithin_any _ _ _ _ _ ?_
          rw [inB_true.2 ⟨h3, h6⟩]
          go_wp2_with fail
          go_loopw [3, 10] (fun out o wr => ∃ j k : Nat, k = 3 + j ∧ j ≤ 4 ∧ o = .int .i64 k ∧ TI w (⟨op, d, a, b⟩ : Ln) ((([⟨0, 0, 0, 0⟩, ⟨op, d, a, b⟩, ⟨op, d, a, b⟩] : List Ln) ++ ((List.range 4).map fun n : Nat => (⟨op, (n : Int), a, b⟩ : Ln)) ++ ((List.range 4).map fun n : Nat => (⟨op, d, (n : Int), b⟩ : Ln)) ++ ((List.range 4).map fun n : Nat => (⟨op, d, a, (n : Int)⟩ : Ln))) ++ [⟨op, d, b, a⟩] ++ (List.range j).map (fun n : Nat => (⟨3 + (n : Int), d, a, b⟩ : Ln))) out wr) (fun _ o _ => (7 - intOf o).toNat)
          case atStart => exact ⟨0, 3, rfl, by omega, rfl, by rw [List.range_zero, List.map_nil, List.append_nil]; exact HT.out⟩
          case round =>
            obtain ⟨j, k, hk, hj, rfl, ht⟩ := hrel
            clear HT g0 g1 g2 g3 hzg
            have HT := Lib.hid ht
            have HK := Lib.hid hk
            obtain ⟨e0, e1, e2, e3⟩ := box4 ht.bx
            have hz := lt_of_block ht.bx
            clear ht
            by_cases hlt : j < 4
            · have hlt2 : (k : Int) ≤ 6 := by omega
              clear hk
              go_wp2_with (at_builtin; refine wpList_app _ rfl (.tmp 87) (.tmp 89) 23 rfl (w.heap.size + 1) 44 Tryz.underlying23 info_ln rfl (by decide) (by decide) encL encL_len encL_one _ ((([⟨0, 0, 0, 0⟩, ⟨op, d, a, b⟩, ⟨op, d, a, b⟩] : List Ln) ++ ((List.range 4).map fun n : Nat => (⟨op, (n : Int), a, b⟩ : Ln)) ++ ((List.range 4).map fun n : Nat => (⟨op, d, (n : Int), b⟩ : Ln)) ++ ((List.range 4).map fun n : Nat => (⟨op, d, a, (n : Int)⟩ : Ln))) ++ [⟨op, d, b, a⟩] ++ (List.range j).map (fun n : Nat => (⟨3 + (n : Int), d, a, b⟩ : Ln))) rfl (HT.out.grow (by first | exact Grow.alloc (Grow.drew (Below.setCell (Below.setCell HG9.out (Nat.le_refl _) _) (Nat.le_refl _) _)) _ | exact Grow.alloc (Below.setCell (Below.setCell HG9.out (Nat.le_refl _) _) (Nat.le_refl _) _) _ | exact Grow.alloc (Below.setCell (Below.setCell (Grow.drew HG9.out) (Nat.le_refl _) _) (Nat.le_refl _) _) _ | exact ((Grow.refl _).alloc _).alloc _ | exact Grow.alloc (Below.setCell HG3.out (Nat.le_refl _) _) _ | exact Grow.alloc (Below.setCell ((Grow.refl _).alloc _) (Nat.le_refl _) _) _ | exact Grow.alloc (Grow.drew (Below.setCell (Below.setCell ((Grow.refl _).alloc _) (Nat.le_refl _) _) (Nat.le_refl _) _)) _ | exact Grow.alloc (Below.setCell (Below.setCell ((Grow.refl _).alloc _) (Nat.le_refl _) _) (Nat.le_refl _) _) _ | exact (((Grow.refl _).alloc _).drew).alloc _)).ow _ (⟨(k : Int), d, a, b⟩) 1 rfl (news_gen _ _ (by simp) (encL (⟨(k : Int), d, a, b⟩)) _) (by simp; try omega) (by have := HT.out.sz; simp; omega) ?_; intro out2 w2 hown2 hgr2)
              have HT2 := Lib.hid (HT.out.app (y := ⟨(k : Int), d, a, b⟩) (by first | exact Grow.alloc (Grow.drew (Below.setCell (Below.setCell HG9.out (Nat.le_refl _) _) (Nat.le_refl _) _)) _ | exact Grow.alloc (Below.setCell (Below.setCell HG9.out (Nat.le_refl _) _) (Nat.le_refl _) _) _ | exact Grow.alloc (Below.setCell (Below.setCell (Grow.drew HG9.out) (Nat.le_refl _) _) (Nat.le_refl _) _) _ | exact ((Grow.refl _).alloc _).alloc _ | exact Grow.alloc (Below.setCell HG3.out (Nat.le_refl _) _) _ | exact Grow.alloc (Below.setCell ((Grow.refl _).alloc _) (Nat.le_refl _) _) _ | exact Grow.alloc (Grow.drew (Below.setCell (Below.setCell ((Grow.refl _).alloc _) (Nat.le_refl _) _) (Nat.le_refl _) _)) _ | exact Grow.alloc (Below.setCell (Below.setCell ((Grow.refl _).alloc _) (Nat.le_refl _) _) (Nat.le_refl _) _) _ | exact (((Grow.refl _).alloc _).drew).alloc _) hown2 hgr2)
              clear hown2 hgr2
              go_roundw
              case rel => exact ⟨j + 1, k + 1, by have := HK.out; omega, by omega, by go_num, by rw [snoc_range _ _ j, show (3 + (j : Int)) = (k : Int) by have := HK.out; omega]; exact HT2.out⟩
              case measure => simp [intOf]; omega
            · have hj4 : j = 4 := by omega
              subst hj4
              subst hk
              obtain ⟨g, cap, rfl, hg1, hg2, hc1, hc2, hrow⟩ := HT.out.end_ (by simp)
              have HROW := Lib.hid hrow
              clear hrow
              go_wp2_with fail
              refine svalid_any ((([⟨0, 0, 0, 0⟩, ⟨op, d, a, b⟩, ⟨op, d, a, b⟩] : List Ln) ++ ((List.range 4).map fun n : Nat => (⟨op, (n : Int), a, b⟩ : Ln)) ++ ((List.range 4).map fun n : Nat => (⟨op, d, (n : Int), b⟩ : Ln)) ++ ((List.range 4).map fun n : Nat => (⟨op, d, a, (n : Int)⟩ : Ln))) ++ [⟨op, d, b, a⟩] ++ (List.range 4).map (fun n : Nat => (⟨3 + (n : Int), d, a, b⟩ : Ln))) op d a b g 20 cap w.heap.size _ (by simp) HROW.out hg2 (by omega) (by simpa using hc1) hc2 (by decide) _ ?_
              intro w3 hb3 hg3 hr3
              have hle : (validL ((([⟨0, 0, 0, 0⟩, ⟨op, d, a, b⟩, ⟨op, d, a, b⟩] : List Ln) ++ ((List.range 4).map fun n : Nat => (⟨op, (n : Int), a, b⟩ : Ln)) ++ ((List.range 4).map fun n : Nat => (⟨op, d, (n : Int), b⟩ : Ln)) ++ ((List.range 4).map fun n : Nat => (⟨op, d, a, (n : Int)⟩ : Ln))) ++ [⟨op, d, b, a⟩] ++ (List.range 4).map (fun n : Nat => (⟨3 + (n : Int), d, a, b⟩ : Ln))) (⟨op, d, a, b⟩ : Ln)).length ≤ cap := Nat.le_trans (validL_len _ _) hc1
              have HF := Lib.hid (HR.out _ _ (Below.trans HT.out.g hb3) (hr3.slc hg3 hle hc2))
              clear hb3 hr3
              go_wp2_with fail
              exact HF.out
end Go.Proofs.YtfbfkkaepgcggaaGreat

namespace Go.Proofs.YtfbfkkaepgcggaaGreat
open Go.RowKit

/-- The row that All has gathered. -/
structure AL (w : World) (xs : List Ln) (out : Value) (wr : World) : Prop where
  g : Grow w wr
  ow : wr.ownsRow w.heap.size 44 4 out xs.length (xs.flatMap encL)
theorem AL.grow {w : World} {xs : List Ln} {out : Value} {wr W : World} (h : AL w xs out wr) (g : Grow wr W) : AL w xs out W := ⟨h.g.trans g, g.owns h.ow⟩
theorem AL.app {w : World} {y : Ln} {xs : List Ln} {out out' : Value} {wr W w2 : World} (h : AL w xs out wr) (g : Grow wr W) (ho : w2.ownsRow w.heap.size 44 4 out' (xs ++ [y]).length ((xs ++ [y]).flatMap encL)) (hg : W.grownBy w2 out.ownBlock) : AL w (xs ++ [y]) out' w2 :=
  have h2 := h.grow g
  ⟨grown_below h2.ow hg (by omega) h2.g.sz h2.g, ho⟩
theorem AL.end_ {w : World} {xs : List Ln} {out : Value} {wr : World} (h : AL w xs out wr) (hp : 0 < xs.length) : ∃ g cap, out = .slice (some ⟨g, 0, none⟩) xs.length cap ∧ w.heap.size ≤ g ∧ g < wr.heap.size ∧ xs.length ≤ cap ∧ cap ≤ 9223372036854775807 ∧ RowL wr g 0 xs := by
  have hr := h.ow
  rcases h.ow.2 with ⟨_, h0⟩ | ⟨g, cap, cur, rfl, hg, hh, _⟩
  · omega
  · obtain ⟨_, c, e, h1, h2, _⟩ := slc_of_owns encL_len h.ow
    cases e
    exact ⟨g, cap, rfl, hg, lt_of_block hh, h1, h2, RowL.of_own h.ow⟩

end Go.Proofs.YtfbfkkaepgcggaaGreat
