/- The walks of package blame: sets as lists in ascending order. -/
import Derived.Test.YtmlbgfnddgbpbaaGreatD14
import Derived.Test.YtmlbgfnddgbpbaaGreatD08
import Derived.Shelf.SlSortCmp.Whole1
namespace Go.Proofs.YtmlbgfnddgbpbaaGreat
open Go.RowKit
open Mk Bm
open Go.Sort (grow putRow mapBlock putCells Holds PermIn SortedIn SWO)

theorem ls_drop {α : Type} {a : List α} {k : Nat} {x : α} (h : a[k]? = some x) : a.drop k = x :: a.drop (k + 1) := by
  obtain ⟨h1, rfl⟩ := List.getElem?_eq_some_iff.1 h
  exact List.drop_eq_getElem_cons h1
theorem bisNaN_any (x : Int) (w : World) (R : Ending → World → Prop) (hR : R (.returned (.bool false)) w) : Calls Tryz.prog 186 #[.int .i64 x] w R := by
  go_enter Tryz.func186, Tryz.ntmps186
  go_wp2
  simpa using hR

theorem bcmpI_any (x y : Int) (w : World) (R : Ending → World → Prop) (hR : R (.returned (.int .i64 (Ls.ci x y))) w) : Calls Tryz.prog 155 #[.int .i64 x, .int .i64 y] w R := by
  have HR := Lib.hid hR
  clear hR
  by_cases h1 : x < y
  · rw [show Ls.ci x y = -1 by unfold Ls.ci; rw [if_pos h1]] at HR
    go_enter Tryz.func155, Tryz.ntmps155
    go_wp2_with (go_at_call 186; refine bisNaN_any _ _ _ ?_)
    exact HR.out
  · by_cases h2 : y < x
    · rw [show Ls.ci x y = 1 by unfold Ls.ci; rw [if_neg h1, if_pos h2]] at HR
      go_enter Tryz.func155, Tryz.ntmps155
      go_wp2_with (go_at_call 186; refine bisNaN_any _ _ _ ?_)
      exact HR.out
    · rw [show Ls.ci x y = 0 by unfold Ls.ci; rw [if_neg h1, if_neg h2]] at HR
      go_enter Tryz.func155, Tryz.ntmps155
      go_wp2_with (go_at_call 186; refine bisNaN_any _ _ _ ?_)
      exact HR.out
theorem bcmpI_still (x y : Int) (w : World) : Calls Tryz.prog 155 #[.int .i64 x, .int .i64 y] w fun e w'' => e = .returned (.int .i64 (Ls.ci x y)) ∧ w'' = w := bcmpI_any x y w _ ⟨rfl, rfl⟩

set_option maxHeartbeats 4000000 in
theorem compareIs_any (xs ys : List Int) (v u : Value) (w : World) (hx : IntsAt w v xs) (hy : IntsAt w u ys) (R : Ending → World → Prop)
    (hR : R (.returned (.int .i64 (Ls.cmp xs ys))) w) :
    Calls Tryz.prog 112 #[v, u] w R := by
  have HX := Lib.hid hx
  have HY := Lib.hid hy
  have HR := Lib.hid hR
  obtain ⟨xa, xc, rfl, x1, x2, jk1⟩ := hx
  obtain ⟨ya, yc, rfl, y1, y2, jk2⟩ := hy
  clear hR jk1 jk2
  go_enter Tryz.func112, Tryz.ntmps112
  go_wp2_with fail
  go_loopw [5, 6, 7, 8, 11] (fun _ _ _ _ i wr => ∃ k : Nat, k ≤ xs.length ∧ k ≤ ys.length ∧ i = .int .i64 k ∧ wr = w ∧ Ls.cmp xs ys = Ls.cmp (xs.drop k) (ys.drop k)) (fun _ _ _ _ i _ => xs.length - (intOf i).toNat)
  case atStart => exact ⟨0, Nat.zero_le _, Nat.zero_le _, rfl, rfl, rfl⟩
  case round =>
    obtain ⟨k, hkx, hky, rfl, rfl, hq⟩ := hrel
    have HQ := Lib.hid hq
    clear hq
    by_cases hlx : k < xs.length
    · obtain ⟨x, hx⟩ : ∃ x, xs[k]? = some x := ⟨_, List.getElem?_eq_getElem hlx⟩
      obtain ⟨gb, o, rfl, hb, e0⟩ := ints_at HX.out hx
      have hlx2 : (k : Int) < (xs.length : Int) := by omega
      have HDX := Lib.hid (ls_drop hx)
      clear hx
      by_cases hly : k < ys.length
      · obtain ⟨y, hy⟩ : ∃ y, ys[k]? = some y := ⟨_, List.getElem?_eq_getElem hly⟩
        obtain ⟨gb2, o2, rfl, hb2, f0⟩ := ints_at HY.out hy
        have hly2 : (k : Int) < (ys.length : Int) := by omega
        have hly3 : ¬ (k : Int) ≥ (ys.length : Int) := by omega
        have hq2 := HQ.out
        rw [HDX.out, ls_drop hy] at hq2
        have HQ2 := Lib.hid hq2
        clear hy hq2
        go_wp2_with fail
        refine bcmpI_any _ _ _ _ ?_
        obtain ⟨c, hc⟩ : ∃ c, Ls.ci x y = c := ⟨_, rfl⟩
        rw [hc]
        have hq3 := HQ2.out
        rw [Ls.cmp_cons] at hq3
        rw [hc] at hq3
        by_cases hc0 : c = 0
        · rw [if_pos hc0] at hq3
          have HQ3 := Lib.hid hq3
          subst hc0
          clear hq3 hc
          go_wp2_with fail
          go_roundw
          case rel => exact ⟨k + 1, by omega, by omega, by go_num, by first | rfl | trivial, HQ3.out⟩
          case measure => simp [intOf]; omega
        · rw [if_neg hc0] at hq3
          have hr := HR.out
          rw [hq3] at hr
          have HF := Lib.hid hr
          have t1 : (c != 0) = true := by simpa using hc0
          clear hq3 hc hr
          go_wp2_with fail
          exact HF.out
      · have hly3 : (k : Int) ≥ (ys.length : Int) := by omega
        have hq2 := HQ.out
        rw [HDX.out, List.drop_eq_nil_of_le (show ys.length ≤ k by omega)] at hq2
        have hr := HR.out
        rw [hq2] at hr
        have HF := Lib.hid (show R (.returned (.int .i64 1)) wr from hr)
        clear hq2 hr
        go_wp2_with fail
        exact HF.out
    · have hq2 := HQ.out
      have hlx2 : ¬ (k : Int) < (xs.length : Int) := by omega
      rw [List.drop_eq_nil_of_le (show xs.length ≤ k by omega)] at hq2
      by_cases hly : k < ys.length
      · obtain ⟨y, hy⟩ : ∃ y, ys[k]? = some y := ⟨_, List.getElem?_eq_getElem hly⟩
        rw [ls_drop hy] at hq2
        have hr := HR.out
        rw [hq2] at hr
        have HF := Lib.hid (show R (.returned (.int .i64 (-1))) wr from hr)
        have hly3 : (xs.length : Int) < (ys.length : Int) := by omega
        clear hq2 hr hy
        go_wp2_with fail
        exact HF.out
      · rw [List.drop_eq_nil_of_le (show ys.length ≤ k by omega)] at hq2
        have hr := HR.out
        rw [hq2] at hr
        have HF := Lib.hid (show R (.returned (.int .i64 0)) wr from hr)
        have hly3 : ¬ (xs.length : Int) < (ys.length : Int) := by omega
        clear hq2 hr
        go_wp2_with fail
        exact HF.out


/-! ### The sort -/
theorem sortW_kept {α : Type} [Inhabited α] (enc : α → Value) (w : World) (blk off m : Nat) (dk : Array α) (os : Array Obj) : w.grownBy (sortWorld enc w blk off m dk os) (some blk) := by
  refine ⟨rfl, rfl, rfl, ?_, fun k hk hne => ?_⟩
  · show w.heap.size ≤ (((w.heap.modify blk _) ++ os) : Array Obj).size
    simp
  · have hk2 : k < (putRow enc (Go.Sort.ahead w m) blk off dk).heap.size := by
      show k < (w.heap.modify blk _).size
      simpa using hk
    unfold sortWorld
    rw [Go.Sort.heap_grow_old _ _ hk2]
    show (w.heap.modify blk _)[k]? = _
    rw [Array.getElem?_modify]
    rw [if_neg (fun e => hne (by rw [e]))]
theorem ltOf_ls {α : Type} (f : α → List Int) (x y : α) : ltOf (fun a b => Ls.cmp (f a) (f b)) x y = Ls.lt (f x) (f y) := Ls.cmp_lt _ _
theorem swo_ls {α : Type} (f : α → List Int) : SWO (ltOf fun a b => Ls.cmp (f a) (f b)) := by
  refine ⟨fun x => ?_, fun x y z h k => ?_, fun x y z h k => ?_⟩
  · rw [ltOf_ls]; exact Ls.lt_irrefl _
  · rw [ltOf_ls] at *; exact Ls.lt_trans h k
  · rw [ltOf_ls] at *
    rcases Ls.lt_total (f x) (f y) with e | e | e
    · rw [e] at h; cases h
    · rw [e]; exact k
    · rcases Ls.lt_total (f y) (f z) with e2 | e2 | e2
      · rw [e2] at k; cases k
      · rw [← e2]; exact h
      · exact Ls.lt_asym (Ls.lt_trans e2 e)
theorem ext_all {α : Type} (d : Array α) {n : Nat} (h : d.size = n) : (d.extract 0 n).toList = d.toList := by subst h; simp
theorem nil_of_len {α : Type} {L : List α} (h : L.length = 0) : L = [] := List.eq_nil_of_length_eq_zero h
set_option maxHeartbeats 4000000 in
theorem sortLs_any {base : Nat} {T : TypeId} (L : List (Lo Int)) (a : Option Addr) (n c : Nat) (w : World) (ho : LoOwn base T 1 encI w (.slice a n c) L) (hf : FreeL base w L) (hnd : (L.map Lo.x).Nodup) (hlen : L.length < 1000000) (R : Ending → World → Prop)
    (hR : ∀ w', Below base w w' → FamNew base w' (.slice a n c) (Ls.srt (L.map Lo.x)) → R (.returned (.tuple #[])) w') :
    Calls Tryz.prog 111 #[.slice a n c, .func (.func 112) #[] #[]] w R := by
  have hn : n = L.length := (slc_n ho.at_).1
  by_cases h0 : L.length = 0
  · have hL : L = [] := nil_of_len h0
    subst hL
    have hn0 : n = 0 := hn
    subst hn0
    refine (Tryz.slices_SortFunc_none (α := Nat) a c _ w).mono ?_
    rintro e w' ⟨rfl, rfl⟩
    exact hR _ (Below.refl _ _) (ho.famNew hf)
  · obtain ⟨g, ha, hgb, hgw⟩ : ∃ g, a = some ⟨g, 0, none⟩ ∧ base ≤ g ∧ g < w.heap.size := by
      rcases ho.row.2 with ⟨_, h2⟩ | ⟨g, cap, cur, hv, hb, hh, _⟩
      · exact absurd h2 h0
      · cases hv; exact ⟨g, rfl, hb, lt_of_block hh⟩
    subst ha
    have hpos : 0 < L.length := by omega
    subst hn
    have hin : Inhabited (Fin L.length) := ⟨⟨0, hpos⟩⟩
    have hd : (List.finRange L.length).toArray.size = L.length := by simp
    have hget : ∀ j (h : j < L.length), (List.finRange L.length).toArray[j]! = ⟨j, h⟩ := fun j h => by
      rw [getElem!_pos _ _ (by simpa using h)]; simp
    have hH : Holds (fun i : Fin L.length => L[i].v) w g 0 (List.finRange L.length).toArray := by
      intro j hj
      have hj2 : j < L.length := by simpa using hj
      rw [hget j hj2]
      have hx : L[j]? = some L[j] := List.getElem?_eq_getElem hj2
      obtain ⟨b, o, e, _, hc⟩ := lo_at ho.at_ hx
      cases e
      rw [Nat.zero_add] at hc ⊢
      exact ⟨hc, ownsRow_free ho.row _⟩
    have hrd : ∀ (m : Nat) (os : Array Obj) (dk : Array (Fin L.length)) (i : Fin L.length), IntsAt (sortWorld (fun i : Fin L.length => L[i].v) w g 0 m dk os) L[i].v L[i].x := by
      intro m os dk i
      have hm : L[i] ∈ L := List.getElem_mem _
      refine slc_kept (ho.ins _ hm) (sortW_kept _ w g 0 m dk os) fun b o s he => ?_
      have := (ho.off _ hm b o s he).1
      intro e
      cases e
      exact this rfl
    have hcmp : CmpLays1 Tryz.prog 112 #[] (fun i : Fin L.length => L[i].v) (fun x y => Ls.cmp L[x].x L[y].x) g 0 (List.finRange L.length).toArray.size w := by
      intro m os dk _ x y
      refine compareIs_any L[x].x L[y].x _ _ _ (hrd m os dk x) (hrd m os dk y) _ ⟨rfl, 0, #[], ?_⟩
      simp [grow]; rfl
    have eg : ∀ args w, (callFunc 112 args).run Tryz.prog w = .ok (.enter 112 args) w := enters_of Tryz.func112 (by kernel_rfl) rfl
    have hcon := Tryz.slices_SortFunc (fun i : Fin L.length => L[i].v) (fun i => rfl) (fun x y => Ls.cmp L[x].x L[y].x) (swo_ls fun i : Fin L.length => L[i].x) 112 #[] g 0 c _ w eg hcmp hH hgw (by rw [hd]; omega)
    rw [hd] at hcon
    refine hcon.mono ?_
    rintro e w' ⟨rfl, d', m, os, ⟨hsz, _, hperm⟩, hs, rfl⟩
    have hsz' : d'.size = L.length := by simpa using hsz
    have hall : d'.toList.Perm (List.finRange L.length) := by
      have h1 : (d'.extract 0 L.length).toList = d'.toList := ext_all d' hsz'
      have h2 : ((List.finRange L.length).toArray.extract 0 L.length).toList = List.finRange L.length := by rw [ext_all _ hd]
      rw [h1, h2] at hperm; exact hperm
    have hL' : (d'.toList.map fun i => L[i]).Perm L := by
      have h1 := hall.map fun i : Fin L.length => L[i]
      have h2 : (List.finRange L.length).map (fun i : Fin L.length => L[i]) = L := by
        refine List.ext_getElem (by simp) fun i h1 h2 => ?_
        simp
      rwa [h2] at h1
    have hkeep := sortW_kept (fun i : Fin L.length => L[i].v) w g 0 m d' os
    have hbel : Below base w (sortWorld (fun i : Fin L.length => L[i].v) w g 0 m d' os) := ⟨hkeep.os, hkeep.tape, hkeep.output, hkeep.size, fun k hk => hkeep.block k (by omega) (by intro e; have := Option.some.inj e; omega)⟩
    have hhold := holds_sortWorld (fun i : Fin L.length => L[i].v) w g 0 m (List.finRange L.length).toArray d' os hgw hH (by rw [hsz', hd])
    have hlen' : (d'.toList.map fun i => L[i]).length = L.length := by simpa using hsz'
    refine hR _ hbel ⟨d'.toList.map fun i => L[i], ?_, ?_, ?_, ?_, ?_, ?_⟩
    · refine ⟨some ⟨g, 0, none⟩, c, by rw [hlen'], ?_, ?_, .inr ⟨g, 0, rfl, Nat.lt_of_lt_of_le hgw hkeep.size, fun j x hx i u hu => ?_⟩⟩
      · rw [hlen']; obtain ⟨_, _, e, h1, h2, _⟩ := ho.at_; cases e; exact h1
      · obtain ⟨_, _, e, h1, h2, _⟩ := ho.at_; cases e; exact h2
      · have hi : i = 0 := by
          have := (List.getElem?_eq_some_iff.1 hu).1
          rw [encLo_len] at this; omega
        subst hi
        rw [List.getElem?_map] at hx
        cases hj : d'.toList[j]? with
        | none => rw [hj] at hx; cases hx
        | some q =>
          rw [hj] at hx
          cases hx
          have hu2 : u = L[q].v := by
            have : (encLo L[q])[0]? = some L[q].v := rfl
            rw [this] at hu; exact (Option.some.inj hu).symm
          have hjl : j < d'.size := by have := (List.getElem?_eq_some_iff.1 hj).1; simpa using this
          have h1 := (hhold j hjl).1
          have h2 : d'[j]! = q := by
            rw [getElem!_pos d' j hjl]
            have := (List.getElem?_eq_some_iff.1 hj).2
            simpa using this
          rw [h2] at h1
          rw [hu2]
          simpa using h1
    · refine Ls.srt_perm (by rw [List.map_map]; have := hL'.map Lo.x; rwa [List.map_map] at this) ?_ hnd
      rw [List.pairwise_map, List.pairwise_map, List.pairwise_iff_getElem]
      intro i j hi hj hij
      have hj' : j < d'.size := by simpa using hj
      have := hs i j (Nat.zero_le _) hij (by rw [← hsz']; exact hj')
      have h2 : ltOf (fun x y : Fin L.length => Ls.cmp L[x].x L[y].x) d'[j]! d'[i]! = false := this
      rw [ltOf_ls fun i : Fin L.length => L[i].x] at h2
      rw [getElem!_pos d' j hj', getElem!_pos d' i (by omega)] at h2
      simpa using h2
    · intro a n c e; cases e; exact hgb
    · intro t ht
      obtain ⟨q, _, rfl⟩ := List.mem_map.1 ht
      exact hrd m os d' q
    · have hfk : FreeL base (sortWorld (fun i : Fin L.length => L[i].v) w g 0 m d' os) L := hf.kept hkeep fun t ht b o s he e => by
        have := (ho.off t ht b o s he).1
        cases e
        exact this rfl
      exact fun t ht => hfk t (hL'.mem_iff.1 ht)
    · intro t ht b o s he a n c e
      cases e
      have := (ho.off t (hL'.mem_iff.1 ht) b o s he).1
      intro e2
      exact this (by subst e2; rfl)
end Go.Proofs.YtmlbgfnddgbpbaaGreat
