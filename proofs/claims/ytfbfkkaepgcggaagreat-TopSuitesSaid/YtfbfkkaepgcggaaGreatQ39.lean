/-
The walks of the library's Values, AppendSeq, Collect and Sorted on numbers.
The walks of the library's Sorted at an order, and of suite.Wait.
The walks of the library's Backward and Delete on numbers, and of suite.Least.
-/
import Derived.Test.YtfbfkkaepgcggaaGreatQ38
import Derived.Test.YtfbfkkaepgcggaaGreatQ01
import Derived.Test.YtfbfkkaepgcggaaGreatQ15
import Derived.Test.YtfbfkkaepgcggaaGreatQ32
import Derived.RangeFuncWrites
import Derived.RangeFuncNested
import Derived.RangeFuncBound
import Derived.RangeFuncCalls
import Derived.RangeFuncLeaves
import Derived.RangeFuncFrom
import Derived.RangeFuncKeeps
import Derived.Shelf.RegionOpen
import Derived.WalkKit
import Derived.OwnWalkIn
import Derived.TacticsInMore
import Derived.LoopNIn
import Derived.LoopIn
import Derived.Test.YtfbfkkaepgcggaaGreatQ16
import Derived.Test.YtfbfkkaepgcggaaGreatQ06
import Derived.Deep.RegionHeld3
namespace Go.Proofs.YtfbfkkaepgcggaaGreat
open Go.RowKit
open Go.Sort (Holds putRow grow heap_grow_old holds_putRow holds_grow holds_ahead)

attribute [local go_sem] Oper.semAt_some

/-- The slice value sv holds the numbers zs in a block ahead of n; or it is nil and there are none. -/
def IntsU (n : Nat) (W : World) (sv : Value) (zs : List Int) : Prop :=
  ∃ a c, sv = .slice a zs.length c ∧ (zs = [] ∨ ∃ b o, a = some ⟨b, o, none⟩ ∧ b < n ∧ ∀ j x, zs[j]? = some x → W.cell? ⟨b, o + j, none⟩ = some (.int .i64 x))
theorem IntsU.below {n : Nat} {A B : World} (h : Below n A B) {sv : Value} {zs : List Int} (k : IntsU n A sv zs) : IntsU n B sv zs := by
  obtain ⟨a, c, e, k⟩ := k
  refine ⟨a, c, e, k.imp id ?_⟩
  rintro ⟨b, o, ha, hb, hc⟩
  exact ⟨b, o, ha, hb, fun j x hj => (h.cell (p := ⟨b, o + j, none⟩) hb).trans (hc j x hj)⟩
theorem IntsU.of {w : World} {sv : Value} {zs : List Int} (h : IntsAt w sv zs) : IntsU w.heap.size w sv zs := by
  have h0 := h
  obtain ⟨a, c, rfl, h1, h2, h3⟩ := h
  refine ⟨a, c, rfl, h3.imp And.left ?_⟩
  rintro ⟨b, o, rfl, hb, hc⟩
  exact ⟨b, o, rfl, hb, fun j x hj => ints_cell hc j x hj⟩

set_option maxRecDepth 100000 in
set_option maxHeartbeats 2000000 in
theorem vals_in (n : Nat) (hn : 1 ≤ n) (l Bs n₀ : Nat) (sv : Value) (zs : List Int) (hlen : zs.length ≤ 1000000) (J Jx : List Int → World → Prop)
    (hY : ∀ pre x W, J pre W → pre.length < zs.length → YieldAt Fence.wide (n - 1) Tryz.prog l #[.int .i64 x] W fun e W' =>
      (e = .returned (.bool true) ∧ J (pre ++ [x]) W' ∧ Below n₀ W W') ∨ (e = .returned (.bool false) ∧ Jx (pre ++ [x]) W'))
    (W : World) (hBs : W.cell? ⟨Bs, 0, none⟩ = some sv) (hc : IntsU n₀ W sv zs) (h0 : J [] W) :
    CallsIn Fence.wide n Tryz.prog 79 #[.func (.yield l) #[] #[], .pointer (some ⟨Bs, 0, none⟩)] W fun e W' => (∃ v, e = .returned v) ∧
      ((∃ ys, ys = zs ∧ J ys W') ∨ (∃ pre : List Int, True ∧ Jx pre W')) := by
  have hc0 := hc
  obtain ⟨a, c, rfl, _⟩ := hc
  refine callsIn_of_wp Tryz.func79 rfl trivial ?_ rfl
  simp only [Tryz.ntmps79, List.size_toArray, List.length_cons, List.length_nil, Nat.reduceAdd, Nat.reduceSub, Array.replicate_succ, Array.replicate_zero, List.push_toArray, List.append_toArray, List.nil_append, List.cons_append]
  gi_wp2
  gi_loopw [7] (fun i wr => ∃ k : Nat, k ≤ zs.length ∧ i = .int .i64 k ∧ J (zs.take k) wr ∧ Below n₀ W wr)
    (fun i _ => zs.length - (intOf i).toNat)
  case atStart => exact ⟨0, Nat.zero_le _, rfl, by simpa using h0, Below.refl _ _⟩
  case round =>
    obtain ⟨k, hk, rfl, hJs, hnx⟩ := hrel
    by_cases hlt : k < zs.length
    · obtain ⟨x, hx⟩ : ∃ x, zs[k]? = some x := ⟨_, List.getElem?_eq_getElem hlt⟩
      obtain ⟨a', c', e, hcc⟩ := IntsU.below hnx hc0
      cases e
      obtain ⟨b, o, rfl, hb, hcs⟩ := hcc.resolve_left (by intro h; rw [h] at hlt; simp at hlt)
      have hcx := hcs k x hx
      obtain ⟨fn, tmps, assign, body, hy, hR⟩ := hY _ x wr hJs (by rw [List.length_take]; omega)
      have hlt2 : (k : Int) < (zs.length : Int) := by omega
      have HX := Lib.hid hx
      have HNX := Lib.hid hnx
      clear hcs hcc hc0 hx hnx hBs hJs h0
      gi_wp2
      refine hR.mono ?_
      rintro e W3 (⟨rfl, hJ3, hk3⟩ | ⟨rfl, hJx3⟩)
      · gi_wp2
        go_roundw
        case rel => exact ⟨k + 1, by omega, by simp, by rw [List.take_add_one, HX.out]; exact hJ3, HNX.out.trans hk3⟩
        case measure => simp [intOf]; omega
      · gi_wp2
        refine bodyPost_ret (results_none rfl _ _ _) rfl ?_
        exact ⟨⟨_, rfl⟩, .inr ⟨_, trivial, hJx3⟩⟩
    · obtain rfl : k = zs.length := by omega
      gi_wp2
      go_end0
      rw [List.take_length] at hJs
      exact ⟨⟨_, rfl⟩, .inl ⟨_, rfl, hJs⟩⟩
theorem vals_stops (n : Nat) (hn : 1 ≤ n) (Bs n₀ : Nat) (sv : Value) (zs : List Int) (hlen : zs.length ≤ 1000000) (w : World) (hn₀ : n₀ ≤ w.heap.size) (hBs : Bs < w.heap.size) (hc : w.cell? ⟨Bs, 0, none⟩ = some sv) (hI : IntsU n₀ w sv zs) :
    SeqStopsK Fence.wide n Tryz.prog 79 #[.pointer (some ⟨Bs, 0, none⟩)] (fun x : Int => #[Value.int .i64 x]) (Below n₀) (fun ys => ys = zs) (fun _ => True) zs.length w := fun l J Jx W hW _ _ hY h0 =>
  vals_in n hn l Bs n₀ sv zs hlen J Jx hY W ((hW.cell (p := ⟨Bs, 0, none⟩) hBs).trans hc) (IntsU.below (hW.mono hn₀) hI) h0

set_option maxHeartbeats 1000000 in
theorem values_any (a : Option Addr) (len c : Nat) (w : World) (R : Ending → World → Prop)
    (hR : R (.returned (.func (.func 79) #[] #[.pointer (some ⟨w.heap.size, 0, none⟩)])) (w.alloc (.cells #[.slice a len c] 25))) :
    Calls Tryz.prog 64 #[.slice a len c] w R := by
  go_enter Tryz.func64, Tryz.ntmps64
  go_wp2_with fail
  exact hR
theorem wpListIn_app8 {F : Fence} {nf : Nat} {P : Program} {α : Type} (w : World) {ops : Array Oper} {rest : List Oper} {o : Oper} {a : Act} {Q : Exit → Act → World → Prop} (hgd : o.guard = none) (s x : Operand) (t : TypeId)
    (ho : o.op = .call { callee := .builtin .append, args := #[s, x], argTypes := #[t, t] })
    (base : Nat) (e : TypeId) {k bytes : Nat} {z : Value} (ht : P.underlying t = some (.slice e)) (info : (P.info? e).map (fun i => (i.zero, i.size, i.bytes)) = some (some z, k, bytes))
    (hzs : z.cells.size = k) (hk : 0 < k) (hby : bytes ≤ 1000)
    (enc : α → List Value) (hen : ∀ x, (enc x).length = k) (h1 : ∀ x, ∀ u ∈ enc x, u.oneCell' = true)
    (v : Value) (xs : List α) (hs : a.eval s = v) (hown : w.ownsRow base e k v xs.length (xs.flatMap enc)) (ad : Addr) (y : α) (c : Nat) (hx : a.eval x = .slice (some ad) 1 c)
    (hnews : ∀ j u, (enc y)[j]? = some u → w.cell? (ad.add j) = some u) (hn : xs.length < 100000000000) (hbase : base ≤ w.heap.size)
    (h : ∀ v' w', w'.ownsRow base e k v' (xs.length + 1) ((xs ++ [y]).flatMap enc) → w.grownBy w' v.ownBlock → wpListIn F nf P ops Q rest (a.put o.dst v') w') : wpListIn F nf P ops Q (o :: rest) a w := by
  obtain ⟨i, hi, hz0, hz1, hz2⟩ := info_parts info
  refine wpListIn_append_own w hgd s x t ho base e i z k bytes ht hi hz0 hz1 hz2 hzs hk v xs.length (xs.flatMap enc) hs hown ad 1 c (enc y) hx (by rw [hen]; omega) hnews (h1 y) (by unfold maxLen; omega) ?_ hbase ?_
  · exact Nat.le_trans (Nat.mul_le_mul (show xs.length + 1 ≤ 100000000000 by omega) hby) (by decide)
  · intro v' w' a1 a2 _
    refine h v' w' ?_ a2
    rw [List.flatMap_append]
    simpa using a1


/-- The list so far in the box bo. -/
structure ApI (w : World) (bo : Nat) (acc : List Int) (W : World) : Prop where
  bel : Below w.heap.size w W
  ho : ∃ v, W.heap[bo]? = some (.cells #[v] 25 (0, 0)) ∧ W.ownsRow (bo + 1) 3 1 v acc.length (acc.flatMap encI)
  sz : bo + 1 ≤ W.heap.size
theorem ApI.own (w : World) (bo : Nat) (hw : w.heap.size ≤ bo) : OwnFrom (bo + 1) (fun s W => ApI w bo s W) := by
  intro s W W' row h hg hr
  obtain ⟨v, hv, hown⟩ := h.ho
  refine ⟨ownFrom_below (β := Unit) (Nat.le_refl _) (show w.heap.size ≤ bo + 1 by omega) () W W' row h.bel hg hr, ⟨v, (hg.block bo (Array.getElem?_eq_some_iff.1 hv).1 (fun e => ?_)).trans hv, hown.kept hg ?_⟩, Nat.le_trans h.sz hg.size⟩
  · obtain ⟨_, o', ho', hc⟩ := hr bo e.symm
    rw [hv] at ho'; cases ho'; cases hc
  · rcases hown.2 with ⟨rfl, _⟩ | ⟨g, cap, cur, rfl, _, hgb, _⟩
    · exact .inl rfl
    · refine .inr fun e' => ?_
      obtain ⟨_, o, ho, hc⟩ := hr g (by simpa [Value.ownBlock] using e'.symm)
      rw [hgb] at ho; cases ho; cases hc
theorem ApI.app {w : World} {bo : Nat} {acc : List Int} {W Wa w5 : World} (h : ApI w bo acc W) (ga : Grow W Wa) {v v' : Value} {y : Int}
    (hv : W.heap[bo]? = some (.cells #[v] 25 (0, 0))) (hown : W.ownsRow (bo + 1) 3 1 v acc.length (acc.flatMap encI))
    (hown' : w5.ownsRow (bo + 1) 3 1 v' (acc.length + 1) ((acc ++ [y]).flatMap encI)) (hg : Wa.grownBy w5 v.ownBlock) (h1 : w.heap.size ≤ bo) :
    w5.heap[bo]? = some (.cells #[v] 25 (0, 0)) ∧ ApI w bo (acc ++ [y]) (w5.setCell ⟨bo, 0, none⟩ v') ∧ KeepsFrom (bo + 1) W (w5.setCell ⟨bo, 0, none⟩ v') ∧ Below w.heap.size W (w5.setCell ⟨bo, 0, none⟩ v') := by
  have hz := h.sz
  have hza := ga.sz
  have hbx : w5.heap[bo]? = some (.cells #[v] 25 (0, 0)) := grown_keep hown hg (by omega) (ga.blk hv)
  have hz5 : bo + 1 ≤ w5.heap.size := by have := hg.size; omega
  have hbW : Below w.heap.size W w5 := grown_below hown hg (by omega) (by omega) (ga.below (by omega))
  refine ⟨hbx, ⟨Below.setCell (h.bel.trans hbW) h1 _, ⟨v', ?_, ?_⟩, by rw [World.size_setCell]; exact hz5⟩, ?_, Below.setCell hbW h1 _⟩
  · rw [heap_setCell_same w5 bo _ _ _ _ hbx]; rfl
  · simpa using ownsRow_setCell_below hown' (by show bo < bo + 1; omega) v'
  · refine (KeepsFrom.trans (⟨ga.sz, fun _ _ _ hk _ => ga.blk hk⟩ : KeepsFrom (bo + 1) W Wa) ?_).trans ((KeepsOthers.setCell w5 _ v').from _)
    refine (KeepsOthers.of_grownBy hg fun j o ej hj => ?_).from _
    rcases (ga.owns hown).2 with ⟨rfl, _⟩ | ⟨g, cap, cur, rfl, _, hgb, _⟩
    · simp [Value.ownBlock] at ej
    · obtain rfl : g = j := by simpa [Value.ownBlock] using ej
      rw [hgb] at hj; cases hj; rfl
/-- The record of a loop that has ended lies elsewhere. -/
theorem own_putObj {w : World} {base D : Nat} {o o' : Obj} {e : TypeId} {n : Nat} {v : Value} {xs : List Value} (h : w.ownsRow base e 1 v n xs) (hD : w.heap[D]? = some o) (hc : o.isCells = false) : (w.putObj D o').ownsRow base e 1 v n xs := by
  obtain ⟨h1, h2⟩ := h
  refine ⟨h1, h2.imp id ?_⟩
  rintro ⟨g, cap, cur, hv, hb, hh, hr⟩
  refine ⟨g, cap, cur, hv, hb, (World.putObj_heap_other ?_).trans hh, hr⟩
  rintro rfl
  rw [hh] at hD; cases hD; cases hc

set_option maxRecDepth 100000 in
set_option maxHeartbeats 4000000 in
theorem appendSeq_any (xs : List Int) (Bs : Nat) (sv : Value) (w : World) (hlen : xs.length ≤ 1000000) (hBs : Bs < w.heap.size) (hc : w.cell? ⟨Bs, 0, none⟩ = some sv) (hI : IntsU w.heap.size w sv xs)
    (R : Ending → World → Prop) (hR : ∀ w' v, Grow w w' → OwnI w.heap.size w' v xs → R (.returned v) w') :
    Calls Tryz.prog 95 #[.slice none 0 0, .func (.func 79) #[] #[.pointer (some ⟨Bs, 0, none⟩)]] w R := by
  have HR := Lib.hid hR
  clear hR
  refine (callsIn_wide (n := 5)).1 ?_
  refine callsIn_of_wp_marks Tryz.func95 rfl trivial ?_ rfl
  simp only [Tryz.ntmps95, List.size_toArray, List.length_cons, List.length_nil, Nat.reduceAdd, Nat.reduceSub, Array.replicate_succ, Array.replicate_zero, List.push_toArray, List.append_toArray, List.nil_append, List.cons_append]
  have hb0 := heap_alloc_new w (.cells #[.slice none 0 0] 25)
  have hg0 := (Grow.refl w).alloc (.cells #[.slice none 0 0] 25)
  have hz0 : (w.alloc (.cells #[.slice none 0 0] 25)).heap.size = w.heap.size + 1 := by simp
  gi_wp2_with fail
  generalize w.alloc (.cells #[.slice none 0 0] 25) = W0 at hb0 hg0 hz0 ⊢
  have HI0 := Lib.hid (show ApI w w.heap.size [] W0 from ⟨hg0, ⟨_, hb0, World.ownsRow_nil _ _ _ _⟩, by omega⟩)
  have HST := Lib.hid (vals_stops 4 (by omega) Bs w.heap.size sv xs hlen W0 (by omega) (by omega) ((hg0.cell hc)) (IntsU.below hg0 hI))
  refine wpIn_rangeFunc_ownG rfl (by omega) (gf := 79) (lb := #[.pointer (some ⟨Bs, 0, none⟩)]) rfl trivial (enters_of Tryz.func79 (by kernel_rfl) rfl)
    HST.out belowK_t (belowK_b (w := W0) (by omega)) (Below.refl _ _) (fun _ => rfl)
    (fun pre W => ApI w w.heap.size pre W) (fun _ _ _ => False) (by rw [hz0]; exact ApI.own w w.heap.size (Nat.le_refl _)) (fun _ _ _ _ _ hs _ _ => hs) HI0.out
    (fun x => { tmps := #[.slice none 0 0, .func (.func 79) #[] #[.pointer (some ⟨Bs, 0, none⟩)], .pointer (some ⟨w.heap.size, 0, none⟩), undef, .slice none 0 0, .int .i64 x, .func (.func 79) #[] #[.pointer (some ⟨Bs, 0, none⟩)], .int .i64 x, undef, undef, undef, undef, undef], defers := [] }) ?assign ?body ?done ?stop
  case assign =>
    intro l x W K hK
    gi_wp2
    exact hK
  case body =>
    rintro l pre x W hIp hpl
    obtain ⟨vo, hvo, hown⟩ := hIp.ho
    have hvc := box1 hvo
    have HIP := Lib.hid hIp
    have HVO := Lib.hid hvo
    have HOW := Lib.hid hown
    have hzr := hIp.sz
    clear hIp hvo hown
    gi_wp2_with (gi_at_builtin; refine Classical.byContradiction (fun hcon => ?_))
    refine hcon ?_
    clear hcon
    refine wpListIn_app8 _ rfl (.tmp 8) (.tmp 10) 25 rfl (w.heap.size + 1) 3 Tryz.underlying25 info_int rfl (by decide) (by decide) encI encI_len encI_one vo pre rfl (World.ownsRow.alloc HOW.out _) ⟨W.heap.size, 0, none⟩ x 1 rfl (news_one _ (encI x) _) (by omega) (by simp; omega) ?_
    intro v7 w7 hown7 hgr7
    obtain ⟨hb7, hI7, hk7, hl7⟩ := HIP.out.app ((Grow.refl W).alloc _) HVO.out HOW.out hown7 hgr7 (Nat.le_refl _)
    obtain ⟨g7, cap7, rfl⟩ := ownsRow_succ hown7
    have hc7 := box1 hb7
    have hf7 : w7.frozen? ⟨w.heap.size, 0, none⟩ = false := by simp [World.frozen?, hb7]
    have HI7 := Lib.hid hI7
    have HK7 := Lib.hid hk7
    have HL7 := Lib.hid hl7
    clear hown7 hgr7 hb7 hI7 hk7 hl7
    gi_wp2_with fail
    exact ⟨by rw [hz0]; exact HK7.out, HL7.out, HI7.out⟩
  case done =>
    rintro D ys W hD rfl hIp hK
    obtain ⟨vo, hvo, hown⟩ := hIp.ho
    have hvc := box1 hvo
    have hDl : D ≠ w.heap.size := by omega
    have HBEL := Lib.hid (hIp.bel.trans (belowK_b (w := w) (Nat.le_refl _) W D _ (.deferred none) (by omega) hK rfl rfl))
    have HOW := Lib.hid (ownsRow_mono (own_putObj (o' := .deferred none) hown hK rfl) (show w.heap.size ≤ w.heap.size + 1 by omega))
    have HK := Lib.hid hK
    clear hIp hvo hown hK
    gi_wp2_with fail
    refine ⟨by simp, .inl ⟨_, _, rfl, run_takeDeferred HK.out, ?_⟩⟩
    refine ⟨_, results_tmp rfl _ _ _, ?_⟩
    have hfin := HR.out _ _ HBEL.out ⟨_, HOW.out⟩
    go_simp
    exact hfin
  case stop =>
    rintro D c' pre W _ _ h _
    exact h.elim
end Go.Proofs.YtfbfkkaepgcggaaGreat

namespace Go.Proofs.YtfbfkkaepgcggaaGreat
open Go.RowKit
open Go.Sort (Holds putRow grow heap_grow_old holds_putRow holds_grow holds_ahead)

theorem holds_of_owns8 {w : World} {base e g cap : Nat} {xs : List Int} (h : w.ownsRow base e 1 (.slice (some ⟨g, 0, none⟩) xs.length cap) xs.length (xs.flatMap encI)) : Holds (Value.int .i64) w g 0 xs.toArray := by
  refine holds_int ?_ ?_
  · intro j x hj
    have hlt : j < xs.length := (List.getElem?_eq_some_iff.1 hj).1
    have h1 := World.ownsRow.cellAt (w := w) (base := base) (e := e) (size := 1) (g := g) (n := xs.length) (cap := cap) h j (by omega)
    rw [Nat.zero_add, h1]
    have h2 := flatMap_getElem? encI_len xs j x hj 0 (by omega)
    simpa [encI] using h2
  · intro j hj
    rcases h.2 with ⟨h0, _⟩ | ⟨g', cap', cur, h0, _, hgb, _⟩
    · cases h0
    · cases h0; simp [World.frozen?, hgb]


theorem sorted_uniq : ∀ {a b : List Int}, a.Pairwise (· ≤ ·) → b.Pairwise (· ≤ ·) → a.Perm b → a = b
  | [], b, _, _, h => (List.Perm.eq_nil h.symm).symm
  | x :: a, [], _, _, h => absurd h.eq_nil (by simp)
  | x :: a, y :: b, h1, h2, h => by
    obtain ⟨k1, k2⟩ := List.pairwise_cons.1 h1
    obtain ⟨k3, k4⟩ := List.pairwise_cons.1 h2
    have e : x = y := by
      rcases List.mem_cons.1 (h.mem_iff.1 (List.mem_cons_self ..)) with e | hx
      · exact e
      rcases List.mem_cons.1 (h.mem_iff.2 (List.mem_cons_self ..)) with e | hy
      · exact e.symm
      have := k1 y hy
      have := k3 x hx
      omega
    subst e
    rw [sorted_uniq k2 k4 (List.Perm.cons_inv h)]
theorem natL_pw : ∀ {n : Nat} {l : List Nat} {f : Nat}, ascF n f l → (natL l).Pairwise (· ≤ ·)
  | _, [], _, _ => List.Pairwise.nil
  | n, x :: l, f, ⟨h1, h2, h3⟩ => List.pairwise_cons.2 ⟨fun y hy => by
    obtain ⟨m, hm, rfl⟩ := natL_mem.1 hy
    have := ascF_mem h3 hm
    show (x : Int) ≤ (m : Int)
    omega, natL_pw h3⟩
/-- An order of all rows, sorted. -/
theorem sort_perm {n : Nat} {S : List Nat} (h : S.Perm (List.range n)) : (natL S).mergeSort (fun x y => decide (x ≤ y)) = natL (List.range n) := by
  refine sorted_uniq ?_ (natL_pw (ascF_range n)) ((List.mergeSort_perm _ _).trans (h.map _))
  have := List.pairwise_mergeSort (le := fun x y : Int => decide (x ≤ y)) (fun a b c h1 h2 => by simp at *; omega) (fun a b => by simp; omega) (natL S)
  exact this.imp (fun h => by simpa using h)

set_option maxHeartbeats 2000000 in
theorem collect_any (xs : List Int) (Bs : Nat) (sv : Value) (w : World) (hlen : xs.length ≤ 1000000) (hBs : Bs < w.heap.size) (hc : w.cell? ⟨Bs, 0, none⟩ = some sv) (hI : IntsU w.heap.size w sv xs)
    (R : Ending → World → Prop) (hR : ∀ w' v, Grow w w' → OwnI w.heap.size w' v xs → R (.returned v) w') :
    Calls Tryz.prog 77 #[.func (.func 79) #[] #[.pointer (some ⟨Bs, 0, none⟩)]] w R := by
  have HR := Lib.hid hR
  have HC := Lib.hid hc
  clear hR hc
  go_enter Tryz.func77, Tryz.ntmps77
  go_wp2_with fail
  refine appendSeq_any xs Bs sv w hlen hBs HC.out hI _ ?_
  intro w1 v1 hg1 ho1
  have HF := Lib.hid (HR.out w1 v1 hg1 ho1)
  clear hg1 ho1
  go_wp2_with fail
  exact HF.out
set_option maxHeartbeats 2000000 in
theorem sorted_any (xs : List Int) (Bs : Nat) (sv : Value) (w : World) (hlen : xs.length ≤ 1000000) (hBs : Bs < w.heap.size) (hc : w.cell? ⟨Bs, 0, none⟩ = some sv) (hI : IntsU w.heap.size w sv xs)
    (R : Ending → World → Prop) (hR : ∀ w' v, Grow w w' → IntsAt w' v (xs.mergeSort fun x y => decide (x ≤ y)) → R (.returned v) w') :
    Calls Tryz.prog 63 #[.func (.func 79) #[] #[.pointer (some ⟨Bs, 0, none⟩)]] w R := by
  have HR := Lib.hid hR
  have HC := Lib.hid hc
  clear hR hc
  go_enter Tryz.func63, Tryz.ntmps63
  go_wp2_with fail
  refine collect_any xs Bs sv w hlen hBs HC.out hI _ ?_
  intro w1 v1 hg1 ho1
  obtain ⟨e, hrow⟩ := ho1
  obtain ⟨a, c, rfl, q1, q2, _⟩ := slc_of_owns encI_len hrow
  have HG1 := Lib.hid hg1
  rcases hrow.2 with ⟨hv, h0⟩ | ⟨g, cap, cur, hv, hbg, hh, _⟩
  · obtain ⟨rfl, _, rfl⟩ : a = none ∧ xs.length = 0 ∧ c = 0 := by simpa using hv
    have hx0 : xs = [] := List.length_eq_zero_iff.1 h0
    subst hx0
    have HF := Lib.hid (HR.out w1 (.slice none 0 0) hg1 (by simpa using SlcAt.nil 1 encI w1))
    clear hg1 hrow
    go_wp2_with fail
    refine (Tryz.slices_Sort_int_none none 0 w1).mono ?_
    rintro e w' ⟨rfl, rfl⟩
    go_wp2_with fail
    exact HF.out
  · cases hv
    have HH := Lib.hid (holds_of_owns8 hrow)
    have hgs : g < w1.heap.size := lt_of_block hh
    have hl2 : (xs.mergeSort fun x y => decide (x ≤ y)).length = xs.length := List.length_mergeSort ..
    clear hg1 hrow hh
    go_wp2_with fail
    refine sortI_any g 0 c xs w1 HH.out hgs (by omega) w.heap.size hbg _ ?_
    intro w2 hb2 hh2 hg2
    have hi := ints_of_holds (c := c) hh2 hg2 (by omega) q2
    rw [hl2] at hi
    have HF := Lib.hid (HR.out w2 _ (Below.trans HG1.out hb2) hi)
    clear hb2 hh2 hi
    go_wp2_with fail
    exact HF.out

/-- Equal on two lists that are the same. -/
theorem equal_same (xs : List Int) (v u : Value) (w : World) (hx : IntsAt w v xs) (hy : IntsAt w u xs) (R : Ending → World → Prop) (hR : ∀ w', Grow w w' → R (.returned (.bool true)) w') :
    Calls Tryz.prog 62 #[v, u] w R := by
  obtain ⟨a, c, rfl, h1, h2, h3⟩ := hx
  obtain ⟨b, d, rfl, k1, k2, k3⟩ := hy
  by_cases h0 : xs = []
  · subst h0
    refine (Tryz.slices_Equal_int_empty a b c 0 d w (by omega)).mono ?_
    rintro e w' ⟨rfl, rfl⟩
    exact hR _ (Grow.refl _)
  · obtain ⟨b1, o1, rfl, _, hc1⟩ := h3.resolve_left (fun h => h0 h.1)
    obtain ⟨b2, o2, rfl, _, hc2⟩ := k3.resolve_left (fun h => h0 h.1)
    have cells : ∀ {b o : Nat}, (∀ (j : Nat) (x : Int), xs[j]? = some x → ∀ (i : Nat) (u : Value), (encI x)[i]? = some u → w.cell? ⟨b, o + j * 1 + i, none⟩ = some u) → ∀ j, j < xs.length → w.cell? ⟨b, o + j, none⟩ = some (.int .i64 (xs.getD j 0)) := by
      intro b o hc j hj
      have := ints_cell hc j _ (List.getElem?_eq_getElem hj)
      rw [this, List.getD_eq_getElem?_getD, List.getElem?_eq_getElem hj]; rfl
    refine (Tryz.slices_Equal_int b1 o1 xs.length c b2 o2 xs.length d xs xs w (Nat.le_refl _) (Nat.le_refl _) (by omega) (by omega) (cells hc1) (cells hc2)).mono ?_
    rintro e w' ⟨rfl, q, rfl⟩
    rw [beq_self_eq_true]
    exact hR _ ((Grow.refl w).drewN q)

set_option maxHeartbeats 4000000 in
theorem uordered_any (T : List (List Int)) (S : List Nat) (tv sv : Value) (w : World) (hx : FamAt w tv T) (hs : IntsAt w sv (natL S)) (hv : ValS T) (hp : S.Perm (List.range T.length))
    (R : Ending → World → Prop) (hR : ∀ w', Grow w w' → R (.returned (.int .i64 0)) w') :
    Calls Tryz.prog 38 #[tv, sv] w R := by
  have HX := Lib.hid hx
  have HS := Lib.hid hs
  have HV := Lib.hid hv
  have HP := Lib.hid hp
  have HR := Lib.hid hR
  have hn8 := hv.rows
  have hs8 : S.length ≤ 8 := by rw [hp.length_eq, List.length_range]; exact hn8
  obtain ⟨a, c, rfl, k1, k2⟩ := hx.out
  obtain ⟨sa, sc, rfl, s1, s2, _⟩ := hs
  rw [natL_len] at HS s1 ⊢
  clear hR hx hv hp
  go_enter Tryz.func38, Tryz.ntmps38
  go_wp2_with fail
  refine uValidate_any T _ _ HX.out _ ?_
  intro w1 e hg1 he
  obtain rfl := errS_ok he HV.out
  have HG1 := Lib.hid hg1
  clear hg1 he
  go_wp2_with fail
  refine values_any _ _ _ _ _ ?_
  have hb := heap_alloc_new w1 (.cells #[.slice sa S.length sc] 25)
  have hg := (Grow.refl w1).alloc (.cells #[.slice sa S.length sc] 25)
  have hz : w1.heap.size < (w1.alloc (.cells #[.slice sa S.length sc] 25)).heap.size := by simp
  generalize w1.alloc (.cells #[.slice sa S.length sc] 25) = W at hb hg hz ⊢
  have HGW := Lib.hid (HG1.out.trans hg)
  have HB := Lib.hid (box1 hb)
  clear hb hg
  go_wp2_with fail
  refine sorted_any (natL S) w1.heap.size _ W (by rw [natL_len]; omega) hz HB.out (IntsU.of (HS.out.grow HGW.out)) _ ?_
  intro w2 v2 hg2 hi2
  rw [sort_perm HP.out] at hi2
  have HG2 := Lib.hid (HGW.out.trans hg2)
  have HI2 := Lib.hid hi2
  clear hg2 hi2
  go_wp2_with fail
  refine uall_any _ (by omega) _ _ ?_
  intro w3 v3 hg3 ho3
  have HG3 := Lib.hid (HG2.out.trans hg3)
  have HI3 := Lib.hid (HI2.out.grow hg3)
  have HO3 := Lib.hid (ho3.slc encI_len)
  clear hg3 ho3
  go_wp2_with fail
  refine equal_same _ _ _ _ HI3.out HO3.out _ ?_
  intro w4 hg4
  have HF := Lib.hid (HR.out w4 (HG3.out.trans hg4))
  clear hg4
  go_wp2_with fail
  exact HF.out

set_option maxHeartbeats 4000000 in
theorem Wait_any (T : List (List Int)) (S : List Nat) (tv sv : Value) (w : World) (hx : FamAt w tv T) (hs : IntsAt w sv (natL S)) (hv : ValS T) (hp : S.Perm (List.range T.length))
    (R : Ending → World → Prop) (hR : ∀ w', Grow w w' → R (.returned (.tuple #[.int .i64 (waitH (hitS T) (openH (hitS T) (goalsS T) T.length) S : Nat), .int .i64 0])) w') :
    Calls Tryz.prog 14 #[tv, sv] w R := by
  have HX := Lib.hid hx
  have HS := Lib.hid hs
  have HV := Lib.hid hv
  have HP := Lib.hid hp
  have HR := Lib.hid hR
  have HSL := Lib.hid (show S.length ≤ 8 by rw [hp.length_eq, List.length_range]; exact hv.rows)
  clear hR hx hs hv hp
  go_enter Tryz.func14, Tryz.ntmps14
  go_wp2_with fail
  refine uordered_any T S _ _ _ HX.out HS.out HV.out HP.out _ ?_
  intro w1 hg1
  have HG1 := Lib.hid hg1
  clear hg1
  go_wp2_with fail
  refine wait_any T S _ _ _ (HX.out.grow HG1.out) (HS.out.grow HG1.out) HV.out (fun r => by rw [HP.out.mem_iff, List.mem_range]) HSL.out _ ?_
  intro w2 hg2
  have HF := Lib.hid (HR.out w2 (HG1.out.trans hg2))
  generalize waitH (hitS T) (openH (hitS T) (goalsS T) T.length) S = q at HF ⊢
  clear hg2
  go_wp2_with fail
  exact HF.out
end Go.Proofs.YtfbfkkaepgcggaaGreat

namespace Go.Proofs.YtfbfkkaepgcggaaGreat
open Go.RowKit
open Go.Sort (Holds putRow grow heap_grow_old holds_putRow holds_grow holds_ahead)

attribute [local go_sem] Oper.semAt_some

def bkI (zs : List Int) (j : Fin zs.length) : Array Value := #[.int .i64 ((zs.length - 1 - j.1 : Nat) : Int), .int .i64 (zs.getD (zs.length - 1 - j.1) 0)]
theorem fin_take8 (n k : Nat) (h : k < n) : (List.finRange n).take (k + 1) = (List.finRange n).take k ++ [⟨k, h⟩] := by
  rw [List.take_add_one]
  congr 1
  rw [List.getElem?_eq_getElem (by simpa using h)]
  simp
set_option maxRecDepth 100000 in
set_option maxHeartbeats 2000000 in
theorem back8_in (n : Nat) (hn : 1 ≤ n) (l Bs n₀ : Nat) (sv : Value) (zs : List Int) (hlen : zs.length ≤ 1000000) (hB : Bs < n₀) (J Jx : List (Fin zs.length) → World → Prop)
    (hY : ∀ pre x W, J pre W → pre.length < zs.length → YieldAt Fence.wide (n - 1) Tryz.prog l (bkI zs x) W fun e W' =>
      (e = .returned (.bool true) ∧ J (pre ++ [x]) W' ∧ Below n₀ W W') ∨ (e = .returned (.bool false) ∧ Jx (pre ++ [x]) W'))
    (W : World) (hBs : W.cell? ⟨Bs, 0, none⟩ = some sv) (hc : IntsU n₀ W sv zs) (h0 : J [] W) :
    CallsIn Fence.wide n Tryz.prog 60 #[.func (.yield l) #[] #[], .pointer (some ⟨Bs, 0, none⟩)] W fun e W' => (∃ v, e = .returned v) ∧
      ((∃ ys, ys = List.finRange zs.length ∧ J ys W') ∨ (∃ pre : List (Fin zs.length), True ∧ Jx pre W')) := by
  have hc0 := hc
  obtain ⟨a, c, rfl, _⟩ := hc
  refine callsIn_of_wp Tryz.func60 rfl trivial ?_ rfl
  simp only [Tryz.ntmps60, List.size_toArray, List.length_cons, List.length_nil, Nat.reduceAdd, Nat.reduceSub, Array.replicate_succ, Array.replicate_zero, List.push_toArray, List.append_toArray, List.nil_append, List.cons_append]
  gi_wp2
  gi_loopw [3] (fun i wr => ∃ k : Nat, k ≤ zs.length ∧ i = .int .i64 ((zs.length : Int) - 1 - k) ∧ J ((List.finRange zs.length).take k) wr ∧ Below n₀ W wr)
    (fun i _ => (intOf i + 1).toNat)
  case atStart => exact ⟨0, Nat.zero_le _, by go_num, by simpa using h0, Below.refl _ _⟩
  case round =>
    obtain ⟨k, hk, rfl, hJs, hnx⟩ := hrel
    have hs := (hnx.cell (p := ⟨Bs, 0, none⟩) hB).trans hBs
    by_cases hlt : k < zs.length
    · obtain ⟨m, hm⟩ : ∃ m, zs.length = m + 1 + k := ⟨zs.length - 1 - k, by omega⟩
      obtain ⟨x, hx⟩ : ∃ x, zs[m]? = some x := ⟨_, List.getElem?_eq_getElem (by omega)⟩
      obtain ⟨a', c', e, hcc⟩ := IntsU.below hnx hc0
      cases e
      obtain ⟨b, o, rfl, hb, hcs⟩ := hcc.resolve_left (by intro h; rw [h] at hlt; simp at hlt)
      have hcx := hcs m x hx
      have hi : (zs.length : Int) - 1 - k = (m : Int) := by omega
      obtain ⟨fn, tmps, assign, body, hy, hR⟩ := hY _ ⟨k, hlt⟩ wr hJs (by simp; omega)
      have hbk : bkI zs ⟨k, hlt⟩ = #[.int .i64 (m : Int), .int .i64 x] := by
        unfold bkI
        have e1 : zs.length - 1 - k = m := by omega
        simp only [e1]
        rw [List.getD_eq_getElem?_getD, hx]; rfl
      rw [hbk] at hy
      rw [hi]
      have HNX := Lib.hid hnx
      have hml : m < zs.length := by omega
      have HM := Lib.hid hm
      clear hcs hcc hc0 hx hnx hJs h0 hBs hm hi hbk hY
      gi_wp2
      refine hR.mono ?_
      rintro e W3 (⟨rfl, hJ3, hk3⟩ | ⟨rfl, hJx3⟩)
      · rw [← fin_take8 _ _ hlt] at hJ3
        have HJ3 := Lib.hid hJ3
        have HK3 := Lib.hid hk3
        clear hJ3 hk3
        gi_wp2
        go_roundw
        case rel =>
          have hm := HM.out
          exact ⟨k + 1, by omega, by simp; omega, HJ3.out, HNX.out.trans HK3.out⟩
        case measure => have hm := HM.out; simp [intOf]
      · gi_wp2
        refine bodyPost_ret (results_none rfl _ _ _) rfl ?_
        exact ⟨⟨_, rfl⟩, .inr ⟨_, trivial, hJx3⟩⟩
    · obtain rfl : k = zs.length := by omega
      have hi : (zs.length : Int) - 1 - (zs.length : Nat) = -1 := by omega
      rw [hi]
      gi_wp2
      go_end0
      rw [List.take_of_length_le (by simp)] at hJs
      exact ⟨⟨_, rfl⟩, .inl ⟨_, rfl, hJs⟩⟩
theorem back8_stops (n : Nat) (hn : 1 ≤ n) (Bs n₀ : Nat) (sv : Value) (zs : List Int) (hlen : zs.length ≤ 1000000) (w : World) (hn₀ : n₀ ≤ w.heap.size) (hBs : Bs < n₀) (hc : w.cell? ⟨Bs, 0, none⟩ = some sv) (hI : IntsU n₀ w sv zs) :
    SeqStopsK Fence.wide n Tryz.prog 60 #[.pointer (some ⟨Bs, 0, none⟩)] (bkI zs) (Below n₀) (fun ys => ys = List.finRange zs.length) (fun _ => True) zs.length w := fun l J Jx W hW _ _ hY h0 =>
  back8_in n hn l Bs n₀ sv zs hlen hBs J Jx hY W ((hW.cell (p := ⟨Bs, 0, none⟩) (show Bs < w.heap.size by omega)).trans hc) (IntsU.below (hW.mono hn₀) hI) h0

set_option maxHeartbeats 1000000 in
theorem backward8_any (a : Option Addr) (len c : Nat) (w : World) (R : Ending → World → Prop)
    (hR : R (.returned (.func (.func 60) #[] #[.pointer (some ⟨w.heap.size, 0, none⟩)])) (w.alloc (.cells #[.slice a len c] 25))) :
    Calls Tryz.prog 31 #[.slice a len c] w R := by
  go_enter Tryz.func31, Tryz.ntmps31
  go_wp2_with fail
  exact hR

/-- Delete of one number, of a list that the call has made. -/
theorem delete1_any (zs : List Int) (i base : Nat) (v : Value) (w : World) (hi : i < zs.length) (ho : w.ownsRow base 3 1 v zs.length (zs.flatMap encI)) (hl : zs.length ≤ 1000000) (R : Ending → World → Prop)
    (hR : ∀ w' v', Below base w w' → IntsAt w' v' (zs.eraseIdx i) → R (.returned v') w') :
    Calls Tryz.prog 32 #[v, .int .i64 (i : Int), .int .i64 ((i : Int) + 1)] w R := by
  obtain ⟨a, c, rfl, q1, q2, _⟩ := slc_of_owns encI_len ho
  rcases ho.2 with ⟨hv, h0⟩ | ⟨g, cap, cur, hv, hbg, hh, _⟩
  · omega
  · cases hv
    have hH := holds_of_owns8 ho
    have hgs : g < w.heap.size := lt_of_block hh
    have e1 : ((i : Int) + 1) = ((i + 1 : Nat) : Int) := by omega
    rw [e1]
    refine (Tryz.slices_Delete_int g 0 c i (i + 1) zs w hH q1 q2 (by omega) (by omega)).mono ?_
    rintro e w' ⟨rfl, q, rfl⟩
    have hz : i + 1 - i = 1 := by omega
    rw [hz]
    have hb := below_putRow (Value.int .i64) w q g 0 (zs.take i ++ zs.drop (i + 1) ++ List.replicate 1 0).toArray hbg
    have hh2 := holds_putRow (Value.int .i64) (Sort.ahead w q) g 0 zs.toArray (zs.take i ++ zs.drop (i + 1) ++ List.replicate 1 0).toArray (holds_ahead _ _ q _ _ _ hH) (by simp; omega)
    have hsz : g < (putRow (Value.int .i64) (Sort.ahead w q) g 0 (zs.take i ++ zs.drop (i + 1) ++ List.replicate 1 0).toArray).heap.size := by simpa using hgs
    have hel : (zs.eraseIdx i).length = zs.length - 1 := by rw [List.length_eraseIdx, if_pos hi]
    refine hR _ _ hb ?_
    rw [← hel]
    refine ⟨_, c, rfl, by omega, q2, .inr ⟨g, 0, rfl, hsz, fun j x hj k u hu => ?_⟩⟩
    have hk : k = 0 := by
      have := (List.getElem?_eq_some_iff.1 hu).1
      simp [encI] at this; exact this
    subst hk
    simp [encI] at hu
    subst hu
    have hjl : j < zs.length - 1 := by rw [← hel]; exact (List.getElem?_eq_some_iff.1 hj).1
    rw [List.eraseIdx_eq_take_drop_succ] at hj
    have hj2 : (zs.take i ++ zs.drop (i + 1) ++ List.replicate 1 0)[j]? = some x := by
      rw [List.getElem?_append_left (by simp; omega)]; exact hj
    have := (hh2 j (by simp; omega)).1
    rw [List.getElem?_eq_some_iff] at hj2
    obtain ⟨hj3, hj4⟩ := hj2
    rw [show 0 + j * 1 + 0 = 0 + j by omega, this]
    rw [getElem!_pos _ j (by simpa using hj3), List.getElem_toArray, hj4]
end Go.Proofs.YtfbfkkaepgcggaaGreat
