/- The walks of Join, the program's and the document's. -/
import Derived.Test.YtmaphlbmmemgcaaPlJ
import Derived.Test.YtmaphlbmmemgcaaPut
import Derived.Test.YtmaphlbmmemgcaaHelp
import Derived.Test.YtmaphlbmmemgcaaRefC
import Derived.Lib.AppendZerosOnto
namespace Go.Proofs.Ytmaphlbmmemgcaa
open Go.RowKit

def joinE (p q : List Ln) : Int := if valP p = 0 then (if valP q = 0 then (if 8 < p.length + q.length then 3 else 0) else valP q) else valP p
def joinM (p q : List Ln) : List Ln := ifOK (joinE p q) (p ++ q)

set_option maxHeartbeats 1000000 in
theorem rcopyT_any (xs : List Ln) (v : Value) (w : World) (hx : LinesAt w v xs) (hn : xs.length < 10000000000) (R : Ending → World → Prop) (hR : ∀ w' x, Grow w w' → w'.ownsRow w.heap.size 37 4 x xs.length (xs.flatMap encL) → R (.returned x) w') :
    Calls Try.prog 35 #[v] w R := by
  have hx' := hx
  obtain ⟨a, c, rfl, h1, h2, h3⟩ := hx'
  have HX := Lib.hid hx
  have HR := Lib.hid hR
  clear hx hR h3
  go_enter Try.func35, Try.ntmps35
  go_wp2_with (at_builtin; refine wpList_appAll _ rfl (.tmp 3) (.tmp 4) 22 rfl w.heap.size 37 Try.underlying22 info_line rfl (by decide) (by decide) encL encL_len encL_one _ [] rfl (ownsRow_empty w 4 _ _ _ (Nat.le_refl _)) _ xs rfl (HX.out.grow ((Grow.refl w).alloc _)) (by simp; omega) (by simp) ?_; intro v1 w1 hown1 hgr1)
  exact HR.out _ _ (grown_below (ownsRow_empty w 4 37 encL _ (Nat.le_refl _)) hgr1 (Nat.le_refl _) (by simp) ((Grow.refl w).alloc _)) hown1

set_option maxRecDepth 100000 in
set_option maxHeartbeats 2000000 in
theorem growL_any (n : Nat) (hn : n ≤ 100) (w : World) (R : Ending → World → Prop) (hR : ∀ w' x, Grow w w' → w'.ownsRow w.heap.size 37 4 x ([] : List Ln).length (([] : List Ln).flatMap encL) → R (.returned x) w') :
    Calls Try.prog 97 #[.slice none 0 0, .int .i64 (n : Int)] w R := by
  have HR := Lib.hid hR
  clear hR
  by_cases h0 : n = 0
  · subst h0
    have HF := Lib.hid (HR.out w _ (Grow.refl w) (World.ownsRow_nil _ _ _ _))
    go_enter Try.func97, Try.ntmps97
    go_wp2_with fail
    exact HF.out
  · obtain ⟨i, hi, hz0, hz1, hz2⟩ := info_parts info_line
    have hrun : ∀ ty, (Builtin.append_ #[22, 3] ty #[.slice none 0 0, .int .i64 (n : Int)]).run Try.prog w =
        .ok (.slice (some ⟨w.heap.size, 0, none⟩) (0 + n) (grownCap w (0 + n) 0 37)) (w.drew.alloc (.cells (#[] ++ Builtin.zeroCells (Value.agg #[.int .i64 0, .int .i64 0, .int .i64 0, .int .i64 0]).cells n ++ Builtin.zeroCells (Value.agg #[.int .i64 0, .int .i64 0, .int .i64 0, .int .i64 0]).cells (grownCap w (0 + n) 0 37 - (0 + n))) 37)) := fun ty =>
      Lib.run_append_grow_zeros w 22 3 ty 37 i _ .i64 .i64 Try.underlying22 Try.underlying3 hi hz0 none 0 0 [] (run_firstCells_none w.drew i.size 0 0 0) n (by omega) (by rw [hz1]; omega) (by omega) (by omega) (by rw [hz2]; omega) (growslice_fits (by omega) (by rw [hz2]; omega))
    rw [Nat.zero_add] at hrun
    have hge := grownCap_ge w n 0 37
    have hle := grownCap_le_maxLen w n 0 37 (by unfold maxLen; omega)
    generalize grownCap w n 0 37 = G at hrun hge hle
    have hsz : (#[] ++ Builtin.zeroCells (Value.agg #[.int .i64 0, .int .i64 0, .int .i64 0, .int .i64 0]).cells n ++ Builtin.zeroCells (Value.agg #[.int .i64 0, .int .i64 0, .int .i64 0, .int .i64 0]).cells (G - n)).size = G * 4 := by
      rw [Array.size_append, Array.size_append, size_zeroCells, size_zeroCells]
      show 0 + n * 4 + (G - n) * 4 = G * 4
      omega
    have hown := World.ownsRow_made (base := w.heap.size) (e := 37) (size := 4) w.drew _ G (Nat.le_refl _) hle hsz
    have HF := Lib.hid (HR.out _ _ ((Grow.refl w).drew.alloc _) hown)
    have hG : G ≤ 9223372036854775807 := hle
    generalize (#[] ++ Builtin.zeroCells (Value.agg #[.int .i64 0, .int .i64 0, .int .i64 0, .int .i64 0]).cells n ++ Builtin.zeroCells (Value.agg #[.int .i64 0, .int .i64 0, .int .i64 0, .int .i64 0]).cells (G - n)) = zs at hrun HF
    have hn1 : 0 < n := by omega
    have hn2 : (0 : Int) < (n : Int) := by omega
    clear hown hsz hle h0 hi hz0 hz1 hz2
    go_enter Try.func97, Try.ntmps97
    go_wp2_with (at_builtin; refine Lib.wpList_append_run _ rfl _ _ _ _ rfl _ _ rfl rfl _ _ (hrun _) ?_)
    exact HF.out

set_option maxRecDepth 100000 in
set_option maxHeartbeats 4000000 in
theorem concat2_any (p q : List Ln) (pa qa : Option Addr) (pc qc B : Nat) (w : World) (hp : LinesAt w (.slice pa p.length pc) p) (hq : LinesAt w (.slice qa q.length qc) q) (hl : p.length + q.length ≤ 100) (hB : w.heap[B]? = some (.cells #[.slice pa p.length pc, .slice qa q.length qc] 22 (0, 0)))
    (R : Ending → World → Prop) (hR : ∀ w' x, Grow w w' → LinesAt w' x (p ++ q) → R (.returned x) w') :
    Calls Try.prog 81 #[.slice (some ⟨B, 0, none⟩) 2 2] w R := by
  have HP := Lib.hid hp
  have HQ := Lib.hid hq
  have HR := Lib.hid hR
  have HB := Lib.hid hB
  obtain ⟨b0, b1⟩ := box2 hB
  have hzB := lt_of_block hB
  clear hp hq hR hB
  go_enter Try.func81, Try.ntmps81
  go_wp2_with fail
  go_loopw [3, 11] (fun z i wr => wr = w ∧ ((i = .int .i64 0 ∧ z = .int .i64 0) ∨ (i = .int .i64 1 ∧ z = .int .i64 p.length) ∨ (i = .int .i64 2 ∧ z = .int .i64 ((p.length + q.length : Nat) : Int)))) (fun _ i _ => 2 - (intOf i).toNat)
  case atStart => exact ⟨rfl, .inl ⟨rfl, rfl⟩⟩
  case round =>
    obtain ⟨rfl, h⟩ := hrel
    rcases h with ⟨rfl, rfl⟩ | ⟨rfl, rfl⟩ | ⟨rfl, rfl⟩
    · go_wp2_with fail
      go_roundw
      case rel => exact ⟨trivial, .inr (.inl ⟨rfl, rfl⟩)⟩
      case measure => simp [intOf]
    · have e1 : (p.length : Int) + (q.length : Int) = ((p.length + q.length : Nat) : Int) := by omega
      have E1 := Lib.hid e1
      clear e1
      go_wp2_with fail
      go_roundw
      case rel => exact ⟨trivial, .inr (.inr ⟨rfl, by rw [← E1.out]⟩)⟩
      case measure => simp [intOf]
    · obtain ⟨w0, rfl⟩ : ∃ w0 : World, w0 = wr := ⟨_, rfl⟩
      obtain ⟨n, hn⟩ : ∃ n, p.length + q.length = n := ⟨_, rfl⟩
      rw [hn]
      have hn8 : n ≤ 100 := by omega
      have hpl : p.length ≤ 100 := by omega
      have hql : q.length ≤ 100 := by omega
      have HN := Lib.hid hn
      clear hn hl
      go_wp2_with fail
      refine growL_any n hn8 _ _ ?_
      intro w1 x1 hg1 ho1
      have HG1 := Lib.hid hg1
      have HO1 := Lib.hid ho1
      clear hg1 ho1
      go_wp2_with fail
      go_loopw [6, 27] (fun z i wr => Grow w0 wr ∧ ((i = .int .i64 0 ∧ wr.ownsRow w0.heap.size 37 4 z ([] : List Ln).length (([] : List Ln).flatMap encL)) ∨ (i = .int .i64 1 ∧ wr.ownsRow w0.heap.size 37 4 z p.length (p.flatMap encL)) ∨ (i = .int .i64 2 ∧ wr.ownsRow w0.heap.size 37 4 z (p ++ q).length ((p ++ q).flatMap encL)))) (fun _ i _ => 2 - (intOf i).toNat)
      case atStart => exact ⟨HG1.out, .inl ⟨rfl, HO1.out⟩⟩
      case round =>
        obtain ⟨hg, h⟩ := hrel
        have HG := Lib.hid hg
        have hB := hg.blk HB.out
        clear b0 b1 hzB
        obtain ⟨b0, b1⟩ := box2 hB
        have hzB := lt_of_block hB
        have hszw := hg.sz
        clear hg hB
        rcases h with ⟨rfl, ho⟩ | ⟨rfl, ho⟩ | ⟨rfl, ho⟩
        · have HO := Lib.hid ho
          clear ho
          go_wp2_with (at_builtin; refine wpList_appAll _ rfl (.tmp 31) (.tmp 32) 22 rfl w0.heap.size 37 Try.underlying22 info_line rfl (by decide) (by decide) encL encL_len encL_one _ [] rfl HO.out _ p rfl (HP.out.grow HG.out) (by simp; omega) hszw ?_; intro x2 w2 hown2 hgr2)
          simp only [List.nil_append] at hown2
          have HO2 := Lib.hid hown2
          have HG2 := Lib.hid (show Grow w0 w2 from grown_below HO.out hgr2 (Nat.le_refl _) hszw HG.out)
          clear hown2 hgr2
          go_roundw
          case rel => exact ⟨HG2.out, .inr (.inl ⟨rfl, HO2.out⟩)⟩
          case measure => simp [intOf]
        · have HO := Lib.hid ho
          clear ho
          go_wp2_with (at_builtin; refine wpList_appAll _ rfl (.tmp 31) (.tmp 32) 22 rfl w0.heap.size 37 Try.underlying22 info_line rfl (by decide) (by decide) encL encL_len encL_one _ p rfl HO.out _ q rfl (HQ.out.grow HG.out) (by omega) hszw ?_; intro x2 w2 hown2 hgr2)
          have HO2 := Lib.hid hown2
          have HG2 := Lib.hid (show Grow w0 w2 from grown_below HO.out hgr2 (Nat.le_refl _) hszw HG.out)
          clear hown2 hgr2
          go_roundw
          case rel => exact ⟨HG2.out, .inr (.inr ⟨rfl, HO2.out⟩)⟩
          case measure => simp [intOf]
        · have HF := Lib.hid (HR.out _ _ HG.out (slc_of_owns encL_len ho))
          clear ho
          go_wp2_with fail
          exact HF.out

set_option maxRecDepth 100000 in
set_option maxHeartbeats 4000000 in
theorem Join_any (p q : List Ln) (v u : Value) (w : World) (hp : LinesAt w v p) (hq : LinesAt w u q) (R : Ending → World → Prop) (hR : ∀ w' x, Grow w w' → LinesAt w' x (joinM p q) → R (.returned (.tuple #[x, .int .i64 (joinE p q)])) w') :
    Calls Try.prog 43 #[v, u] w R := by
  have HP := Lib.hid hp
  have HQ := Lib.hid hq
  have HR := Lib.hid hR
  obtain ⟨pa, pc, rfl, p1, p2, _⟩ := hp
  obtain ⟨qa, qc, rfl, q1, q2, _⟩ := hq
  clear hR
  by_cases hv : valP p = 0
  rotate_left
  · have hE : joinE p q = valP p := by unfold joinE; rw [if_neg hv]
    have hM : joinM p q = [] := by unfold joinM; rw [hE]; exact ifOK_err hv _
    have HRR := HR.out
    rw [hM, hE] at HRR
    generalize he : valP p = e at hv HRR
    have HR2 := Lib.hid HRR
    have HVE := Lib.hid he
    have t1 : (e == 0) = false := by simpa using hv
    have t2 : (e != 0) = true := by simpa using hv
    clear HRR HR hE hM he
    go_enter Try.func43, Try.ntmps43
    go_wp2_with fail
    refine validate_any p _ _ HP.out _ ?_
    intro w1 hg1
    rw [HVE.out]
    go_wp2_with fail
    exact HR2.out _ _ hg1 (SlcAt.nil _ _ _)
  have hpl := (valP_ok.1 hv).1
  by_cases hv2 : valP q = 0
  rotate_left
  · have hE : joinE p q = valP q := by unfold joinE; rw [if_pos hv, if_neg hv2]
    have hM : joinM p q = [] := by unfold joinM; rw [hE]; exact ifOK_err hv2 _
    have HRR := HR.out
    rw [hM, hE] at HRR
    generalize he : valP q = e at hv2 HRR
    have HR2 := Lib.hid HRR
    have HVE := Lib.hid he
    have HV := Lib.hid hv
    have t1 : (e == 0) = false := by simpa using hv2
    have t2 : (e != 0) = true := by simpa using hv2
    clear HRR HR hE hM he hv
    go_enter Try.func43, Try.ntmps43
    go_wp2_with fail
    refine validate_any p _ _ HP.out _ ?_
    intro w1 hg1
    rw [HV.out]
    go_wp2_with fail
    refine validate_any q _ _ (HQ.out.grow hg1) _ ?_
    intro w2 hg2
    rw [HVE.out]
    go_wp2_with fail
    exact HR2.out _ _ (hg1.trans hg2) (SlcAt.nil _ _ _)
  have hql := (valP_ok.1 hv2).1
  have HV := Lib.hid hv
  have HV2 := Lib.hid hv2
  by_cases hlen : 8 < p.length + q.length
  · have hE : joinE p q = 3 := by unfold joinE; rw [if_pos hv, if_pos hv2, if_pos hlen]
    have hM : joinM p q = [] := by unfold joinM; rw [hE]; exact ifOK_err (by decide) _
    have HRR := HR.out
    rw [hM, hE] at HRR
    have HR3 := Lib.hid HRR
    have t1 : decide ((8 : Int) < (p.length : Int) + (q.length : Int)) = true := decide_eq_true (by omega)
    have t2 : (8 : Int) < (p.length : Int) + (q.length : Int) := by omega
    clear HRR HR hE hM hv hv2
    go_enter Try.func43, Try.ntmps43
    go_wp2_with fail
    refine validate_any p _ _ HP.out _ ?_
    intro w1 hg1
    rw [HV.out]
    go_wp2_with fail
    refine validate_any q _ _ (HQ.out.grow hg1) _ ?_
    intro w2 hg2
    rw [HV2.out]
    go_wp2_with fail
    exact HR3.out _ _ (hg1.trans hg2) (SlcAt.nil _ _ _)
  · have hE : joinE p q = 0 := by unfold joinE; rw [if_pos hv, if_pos hv2, if_neg hlen]
    have hM : joinM p q = p ++ q := by unfold joinM; rw [hE]; rfl
    have HRR := HR.out
    rw [hM, hE] at HRR
    have HR3 := Lib.hid HRR
    have t1 : decide ((8 : Int) < (p.length : Int) + (q.length : Int)) = false := decide_eq_false (by omega)
    have t2 : ¬ (8 : Int) < (p.length : Int) + (q.length : Int) := by omega
    clear HRR HR hE hM hv hv2
    go_enter Try.func43, Try.ntmps43
    go_wp2_with fail
    refine validate_any p _ _ HP.out _ ?_
    intro w1 hg1
    rw [HV.out]
    go_wp2_with fail
    refine validate_any q _ _ (HQ.out.grow hg1) _ ?_
    intro w2 hg2
    rw [HV2.out]
    have HG2 := Lib.hid (hg1.trans hg2)
    clear hg1 hg2
    go_wp2_with fail
    · refine concat2_any p q pa qa pc qc w2.heap.size _ (HP.out.grow (HG2.out.alloc _)) (HQ.out.grow (HG2.out.alloc _)) (by omega) (heap_alloc_new w2 _) _ ?_
      intro w3 x3 hg3 hx3
      have HF := Lib.hid (HR3.out _ _ ((HG2.out.alloc _).trans hg3) hx3)
      clear hg3 hx3
      go_wp2_with fail
      exact HF.out

set_option maxRecDepth 100000 in
set_option maxHeartbeats 4000000 in
theorem rJoin_any (p q : List Ln) (v u : Value) (w : World) (hp : LinesAt w v p) (hq : LinesAt w u q) (R : Ending → World → Prop) (hR : ∀ w' x, Grow w w' → LinesAt w' x (joinM p q) → R (.returned (.tuple #[x, .int .i64 (joinE p q)])) w') :
    Calls Try.prog 44 #[v, u] w R := by
  have HP := Lib.hid hp
  have HQ := Lib.hid hq
  have HR := Lib.hid hR
  obtain ⟨pa, pc, rfl, p1, p2, _⟩ := hp
  obtain ⟨qa, qc, rfl, q1, q2, _⟩ := hq
  clear hR
  by_cases hv : valP p = 0
  rotate_left
  · have hE : joinE p q = valP p := by unfold joinE; rw [if_neg hv]
    have hM : joinM p q = [] := by unfold joinM; rw [hE]; exact ifOK_err hv _
    have HRR := HR.out
    rw [hM, hE] at HRR
    generalize he : valP p = e at hv HRR
    have HR2 := Lib.hid HRR
    have HVE := Lib.hid he
    have t1 : (e == 0) = false := by simpa using hv
    have t2 : (e != 0) = true := by simpa using hv
    clear HRR HR hE hM he
    go_enter Try.func44, Try.ntmps44
    go_wp2_with fail
    refine rValidate_any p _ _ HP.out _ ?_
    intro w1 hg1
    rw [HVE.out]
    go_wp2_with fail
    exact HR2.out _ _ hg1 (SlcAt.nil _ _ _)
  have hpl := (valP_ok.1 hv).1
  by_cases hv2 : valP q = 0
  rotate_left
  · have hE : joinE p q = valP q := by unfold joinE; rw [if_pos hv, if_neg hv2]
    have hM : joinM p q = [] := by unfold joinM; rw [hE]; exact ifOK_err hv2 _
    have HRR := HR.out
    rw [hM, hE] at HRR
    generalize he : valP q = e at hv2 HRR
    have HR2 := Lib.hid HRR
    have HVE := Lib.hid he
    have HV := Lib.hid hv
    have t1 : (e == 0) = false := by simpa using hv2
    have t2 : (e != 0) = true := by simpa using hv2
    clear HRR HR hE hM he hv
    go_enter Try.func44, Try.ntmps44
    go_wp2_with fail
    refine rValidate_any p _ _ HP.out _ ?_
    intro w1 hg1
    rw [HV.out]
    go_wp2_with fail
    refine rValidate_any q _ _ (HQ.out.grow hg1) _ ?_
    intro w2 hg2
    rw [HVE.out]
    go_wp2_with fail
    exact HR2.out _ _ (hg1.trans hg2) (SlcAt.nil _ _ _)
  have hql := (valP_ok.1 hv2).1
  have HV := Lib.hid hv
  have HV2 := Lib.hid hv2
  by_cases hlen : 8 < p.length + q.length
  · have hE : joinE p q = 3 := by unfold joinE; rw [if_pos hv, if_pos hv2, if_pos hlen]
    have hM : joinM p q = [] := by unfold joinM; rw [hE]; exact ifOK_err (by decide) _
    have HRR := HR.out
    rw [hM, hE] at HRR
    have HR3 := Lib.hid HRR
    have t1 : decide ((8 : Int) < (p.length : Int) + (q.length : Int)) = true := decide_eq_true (by omega)
    have t2 : (8 : Int) < (p.length : Int) + (q.length : Int) := by omega
    clear HRR HR hE hM hv hv2
    go_enter Try.func44, Try.ntmps44
    go_wp2_with fail
    refine rValidate_any p _ _ HP.out _ ?_
    intro w1 hg1
    rw [HV.out]
    go_wp2_with fail
    refine rValidate_any q _ _ (HQ.out.grow hg1) _ ?_
    intro w2 hg2
    rw [HV2.out]
    go_wp2_with fail
    exact HR3.out _ _ (hg1.trans hg2) (SlcAt.nil _ _ _)
  · have hE : joinE p q = 0 := by unfold joinE; rw [if_pos hv, if_pos hv2, if_neg hlen]
    have hM : joinM p q = p ++ q := by unfold joinM; rw [hE]; rfl
    have HRR := HR.out
    rw [hM, hE] at HRR
    have HR3 := Lib.hid HRR
    have t1 : decide ((8 : Int) < (p.length : Int) + (q.length : Int)) = false := decide_eq_false (by omega)
    have t2 : ¬ (8 : Int) < (p.length : Int) + (q.length : Int) := by omega
    clear HRR HR hE hM hv hv2
    go_enter Try.func44, Try.ntmps44
    go_wp2_with fail
    refine rValidate_any p _ _ HP.out _ ?_
    intro w1 hg1
    rw [HV.out]
    go_wp2_with fail
    refine rValidate_any q _ _ (HQ.out.grow hg1) _ ?_
    intro w2 hg2
    rw [HV2.out]
    have HG2 := Lib.hid (hg1.trans hg2)
    clear hg1 hg2
    go_wp2_with fail
    · refine rcopyT_any p _ _ (HP.out.grow HG2.out) (by omega) _ ?_
      intro w3 x3 hg3 ho3
      have HG3 := Lib.hid (HG2.out.trans hg3)
      have HG23 := Lib.hid hg3
      have HO3 := Lib.hid ho3
      have hsz3 := hg3.sz
      clear hg3 ho3
      go_wp2_with (at_builtin; refine wpList_appAll _ rfl (.tmp 25) (.tmp 26) 22 rfl w2.heap.size 37 Try.underlying22 info_line rfl (by decide) (by decide) encL encL_len encL_one _ p rfl HO3.out _ q rfl (HQ.out.grow HG3.out) (by omega) hsz3 ?_; intro x4 w4 hown4 hgr4)
      have hg4 : Grow w2 w4 := grown_below HO3.out hgr4 (Nat.le_refl _) hsz3 HG23.out
      exact HR3.out _ _ (HG2.out.trans hg4) (slc_of_owns encL_len hown4)

end Go.Proofs.Ytmaphlbmmemgcaa
