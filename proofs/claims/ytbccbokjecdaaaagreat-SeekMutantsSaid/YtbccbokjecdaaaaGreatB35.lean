/-
All single repairs, how many there are and at which places: the plain laws. No program is named.
The walks of the document's Count and Places.
-/
import Derived.Test.YtbccbokjecdaaaaGreatB31
import Derived.Test.YtbccbokjecdaaaaGreatB03
namespace Go.Proofs.YtbccbokjecdaaaaGreat
open Go.RowKit

theorem compactUpTo_congr {d e : Array Int} : ∀ {m : Nat}, (∀ j, j < m → d[j]! = e[j]!) → Lib.compactUpTo d m = Lib.compactUpTo e m
  | 0, _ => rfl
  | m + 1, h => by
    have hk : Lib.keeps d m = Lib.keeps e m := by
      unfold Lib.keeps
      rw [h m (by omega), h (m - 1) (by omega)]
    rw [Lib.compactUpTo_succ, Lib.compactUpTo_succ, compactUpTo_congr (fun j hj => h j (by omega)), hk, h m (by omega)]
theorem get_snoc (zs : List Int) (x : Int) (j : Nat) (hj : j < zs.length) : (zs ++ [x]).toArray[j]! = zs.toArray[j]! := by
  rw [getElem!_pos _ j (by simp; omega), getElem!_pos _ j (by simpa using hj)]
  simp [List.getElem_append_left hj]
theorem compact_snoc (zs : List Int) (x : Int) : Lib.compact (zs ++ [x]) = Lib.compact zs ++ if zs.getLast? = some x then [] else [x] := by
  unfold Lib.compact
  rw [List.length_append, List.length_singleton, Lib.compactUpTo_succ]
  have h1 : Lib.compactUpTo (zs ++ [x]).toArray zs.length = Lib.compactUpTo zs.toArray zs.length := compactUpTo_congr fun j hj => get_snoc zs x j hj
  have hx : (zs ++ [x]).toArray[zs.length]! = x := by rw [getElem!_pos _ _ (by simp)]; simp
  rw [h1, hx]
  congr 1
  cases hz : zs.length with
  | zero =>
    have : zs = [] := List.length_eq_zero_iff.1 hz
    subst this
    simp [Lib.keeps]
  | succ n =>
    have hp : (zs ++ [x]).toArray[n]! = zs[n] := by
      rw [get_snoc zs x n (by omega), getElem!_pos _ n (by simp; omega)]; simp
    have hg : zs.getLast? = some zs[n] := by
      rw [List.getLast?_eq_getElem?, show zs.length - 1 = n by omega]
      exact List.getElem?_eq_getElem (by omega)
    rw [hz] at hx
    unfold Lib.keeps
    rw [hx, show n + 1 - 1 = n by omega, hp, hg]
    by_cases e : x = zs[n]
    · simp [← e]
    · have e2 : ¬ zs[n] = x := fun h => e h.symm
      simp [e, e2]
theorem compact_rep {zs : List Int} {x : Int} (h : x ∉ zs) : ∀ c : Nat, Lib.compact (zs ++ List.replicate c x) = Lib.compact zs ++ if c = 0 then [] else [x]
  | 0 => by simp
  | 1 => by
    rw [show List.replicate 1 x = [x] from rfl, compact_snoc, if_neg (by intro e; exact h (List.mem_of_getLast? e)), if_neg (by omega)]
  | c + 2 => by
    have : (zs ++ List.replicate (c + 1) x).getLast? = some x := by
      rw [show List.replicate (c + 1) x = List.replicate c x ++ [x] from List.replicate_succ', ← List.append_assoc, List.getLast?_append]
      simp
    rw [show List.replicate (c + 2) x = List.replicate (c + 1) x ++ [x] from List.replicate_succ', ← List.append_assoc, compact_snoc, this, if_pos rfl, List.append_nil, compact_rep h (c + 1), if_neg (by omega), if_neg (by omega)]

/-- The candidates by the places. -/
def candAt (p : List Ln) (kind : Int) (n : Nat) : List Ln := candL p (lineAt p n) kind
/-- All single repairs at the first places. -/
def everyN (p : List Ln) (ts : List Tst) (C : Nat → List Ln) (k : Nat) : List Ed := (List.range k).flatMap fun n : Nat => fixE p ts n (C n)
theorem everyN_succ (p : List Ln) (ts : List Tst) (C : Nat → List Ln) (k : Nat) : everyN p ts C (k + 1) = everyN p ts C k ++ fixE p ts k (C k) := by
  unfold everyN
  rw [List.range_succ, List.flatMap_append]
  simp
theorem everyN_len {p : List Ln} {ts : List Tst} {C : Nat → List Ln} (hC : ∀ n, n < p.length → (C n).length ≤ 1000) : ∀ k, k ≤ p.length → (everyN p ts C k).length ≤ k * 1000
  | 0, _ => by simp [everyN]
  | k + 1, hk => by
    rw [everyN_succ, List.length_append]
    have := everyN_len hC k (by omega) (p := p) (ts := ts)
    have := hC k (by omega)
    have := fixE_len p ts k (C k)
    omega
/-- What the document counts. -/
def cntR (p : List Ln) (ts : List Tst) (kind : Int) (k : Nat) : Nat := ((List.range k).map fun n : Nat => (fixR p ts n kind).length).sum
theorem cntR_succ (p : List Ln) (ts : List Tst) (kind : Int) (k : Nat) : cntR p ts kind (k + 1) = cntR p ts kind k + (fixR p ts k kind).length := by
  unfold cntR; rw [List.range_succ, List.map_append, List.sum_append]; simp
def plcR (p : List Ln) (ts : List Tst) (kind : Int) (k : Nat) : List Int := (List.range k).flatMap fun n : Nat => if 0 < (fixR p ts n kind).length then [(n : Int)] else []
theorem plcR_succ (p : List Ln) (ts : List Tst) (kind : Int) (k : Nat) : plcR p ts kind (k + 1) = plcR p ts kind k ++ if 0 < (fixR p ts k kind).length then [(k : Int)] else [] := by
  unfold plcR; rw [List.range_succ, List.flatMap_append]; simp
theorem plcR_len (p : List Ln) (ts : List Tst) (kind : Int) : ∀ k, (plcR p ts kind k).length ≤ k
  | 0 => by simp [plcR]
  | k + 1 => by
    rw [plcR_succ, List.length_append]
    have := plcR_len p ts kind k
    split <;> simp <;> omega
theorem fixE_R {p : List Ln} {ts : List Tst} {kind : Int} (hp : valP p = 0) (ht : valT ts = 0) (k0 : 0 ≤ kind) (k2 : kind ≤ 2) {n : Nat} (hn : n < p.length) : (fixE p ts n (candAt p kind n)).map Ed.l = fixR p ts n kind := by
  rw [fixE_lines]
  unfold candAt fixR
  rw [cand_eq (lineAt_ok hp (by omega) (by omega)) k0 k2]
  exact List.filter_congr fun x hx => fixB_eq hp ht (by omega) (by omega) (candR_ok hx)
theorem fixE_at (p : List Ln) (ts : List Tst) (a : Int) (C : List Ln) : (fixE p ts a C).map Ed.at_ = List.replicate (fixE p ts a C).length a := by
  unfold fixE
  rw [List.map_map, List.length_map]
  exact List.map_const'
theorem everyN_cnt {p : List Ln} {ts : List Tst} {kind : Int} (hp : valP p = 0) (ht : valT ts = 0) (k0 : 0 ≤ kind) (k2 : kind ≤ 2) : ∀ k, k ≤ p.length → (everyN p ts (candAt p kind) k).length = cntR p ts kind k
  | 0, _ => rfl
  | k + 1, hk => by
    rw [everyN_succ, List.length_append, cntR_succ, everyN_cnt hp ht k0 k2 k (by omega), ← fixE_R hp ht k0 k2 (show k < p.length by omega), List.length_map]
theorem everyN_at (p : List Ln) (ts : List Tst) (C : Nat → List Ln) : ∀ k, ∀ x ∈ (everyN p ts C k).map Ed.at_, x < (k : Int)
  | 0, x, h => by simp [everyN] at h
  | k + 1, x, h => by
    rw [everyN_succ, List.map_append, List.mem_append] at h
    rcases h with h | h
    · have := everyN_at p ts C k x h; omega
    · rw [fixE_at] at h
      have := List.eq_of_mem_replicate h
      omega
theorem everyN_plc {p : List Ln} {ts : List Tst} {kind : Int} (hp : valP p = 0) (ht : valT ts = 0) (k0 : 0 ≤ kind) (k2 : kind ≤ 2) : ∀ k, k ≤ p.length → Lib.compact ((everyN p ts (candAt p kind) k).map Ed.at_) = plcR p ts kind k
  | 0, _ => rfl
  | k + 1, hk => by
    rw [everyN_succ, List.map_append, fixE_at, compact_rep (by intro h; have := everyN_at p ts _ k _ h; omega), everyN_plc hp ht k0 k2 k (by omega), plcR_succ, ← fixE_R hp ht k0 k2 (show k < p.length by omega), List.length_map]
    congr 1
    by_cases h : (fixE p ts (k : Int) (candAt p kind k)).length = 0
    · rw [if_pos h, if_neg (by omega)]
    · rw [if_neg h, if_pos (by omega)]
theorem cnt_plc (p : List Ln) (ts : List Tst) (kind : Int) : ∀ k, (plcR p ts kind k).length ≤ cntR p ts kind k ∧ (0 < cntR p ts kind k ↔ 0 < (plcR p ts kind k).length)
  | 0 => by simp [plcR, cntR]
  | k + 1 => by
    obtain ⟨h1, h2⟩ := cnt_plc p ts kind k
    rw [cntR_succ, plcR_succ, List.length_append]
    split <;> simp <;> omega
/-- The answers of Count and Places. -/
def cntO (p : List Ln) (ts : List Tst) (kind : Int) : Nat := if sgtE p ts kind = 0 then cntR p ts kind p.length else 0
def plcO (p : List Ln) (ts : List Tst) (kind : Int) : List Int := if sgtE p ts kind = 0 then plcR p ts kind p.length else []
theorem sgtE_ok {p : List Ln} {ts : List Tst} {kind : Int} : sgtE p ts kind = 0 ↔ (valP p = 0 ∧ valT ts = 0) ∧ (0 ≤ kind ∧ kind ≤ 2) ∧ allPass p ts = false := by
  unfold sgtE
  rw [← chkT_ok]
  by_cases h1 : chkT p ts = 0
  · cases h2 : inB kind 0 2 with
    | false => have := inB_false.1 h2; simp [h1]; omega
    | true => have := inB_true.1 h2; cases h3 : allPass p ts <;> simp [h1] <;> omega
  · simp [h1]
end Go.Proofs.YtbccbokjecdaaaaGreat

namespace Go.Proofs.YtbccbokjecdaaaaGreat
open Go.RowKit

theorem rcand0_at (p : List Ln) (pv : Value) (n : Nat) (W : World) (hval : valP p = 0) (hn : n < p.length) (hp : LinesAt W pv p) (R' : Ending → World → Prop) (hR' : ∀ W' v, Grow W W' → LinesAt W' v (candR p (lineAt p n) 0) → R' (.returned v) W') :
    Calls Tryz.prog 124 #[pv, .int .i64 n, .int .i64 0] W R' := by
  obtain ⟨⟨op, d, a, b⟩, hx⟩ : ∃ l, p[n]? = some l := ⟨_, List.getElem?_eq_getElem hn⟩
  have hl : lineAt p (n : Int) = ⟨op, d, a, b⟩ := by unfold lineAt; rw [show ((n : Int)).toNat = n by omega, hx]; rfl
  rw [hl] at hR'
  exact rcand0_any p n op d a b _ _ hp hx (valP_ok.1 hval).2 (valP_ok.1 hval).1 R' hR'
theorem rcand1_at (p : List Ln) (pv : Value) (n : Nat) (W : World) (hval : valP p = 0) (hn : n < p.length) (hp : LinesAt W pv p) (R' : Ending → World → Prop) (hR' : ∀ W' v, Grow W W' → LinesAt W' v (candR p (lineAt p n) 1) → R' (.returned v) W') :
    Calls Tryz.prog 124 #[pv, .int .i64 n, .int .i64 1] W R' := by
  obtain ⟨⟨op, d, a, b⟩, hx⟩ : ∃ l, p[n]? = some l := ⟨_, List.getElem?_eq_getElem hn⟩
  have hl : lineAt p (n : Int) = ⟨op, d, a, b⟩ := by unfold lineAt; rw [show ((n : Int)).toNat = n by omega, hx]; rfl
  rw [hl] at hR'
  exact rcand1_any p n op d a b _ _ hp hx (valP_ok.1 hval).2 (valP_ok.1 hval).1 R' hR'
theorem rcand2_at (p : List Ln) (pv : Value) (n : Nat) (W : World) (hval : valP p = 0) (hn : n < p.length) (hp : LinesAt W pv p) (R' : Ending → World → Prop) (hR' : ∀ W' v, Grow W W' → LinesAt W' v (candR p (lineAt p n) 2) → R' (.returned v) W') :
    Calls Tryz.prog 124 #[pv, .int .i64 n, .int .i64 2] W R' := by
  obtain ⟨⟨op, d, a, b⟩, hx⟩ : ∃ l, p[n]? = some l := ⟨_, List.getElem?_eq_getElem hn⟩
  have hl : lineAt p (n : Int) = ⟨op, d, a, b⟩ := by unfold lineAt; rw [show ((n : Int)).toNat = n by omega, hx]; rfl
  rw [hl] at hR'
  exact rcand2_any p n op d a b _ _ hp hx (valP_ok.1 hval).2 (valP_ok.1 hval).1 R' hR'
theorem rcand_at (p : List Ln) (pv : Value) (n : Nat) (kind : Int) (W : World) (k0 : 0 ≤ kind) (k2 : kind ≤ 2) (hval : valP p = 0) (hn : n < p.length) (hp : LinesAt W pv p) (R' : Ending → World → Prop) (hR' : ∀ W' v, Grow W W' → LinesAt W' v (candR p (lineAt p n) kind) → R' (.returned v) W') :
    Calls Tryz.prog 124 #[pv, .int .i64 n, .int .i64 kind] W R' := by
  have hk : kind = 0 ∨ kind = 1 ∨ kind = 2 := by omega
  rcases hk with rfl | rfl | rfl
  · exact rcand0_at p pv n W hval hn hp R' hR'
  · exact rcand1_at p pv n W hval hn hp R' hR'
  · exact rcand2_at p pv n W hval hn hp R' hR'
theorem fixR_len (p : List Ln) (ts : List Tst) (a kind : Int) : (fixR p ts a kind).length ≤ 1000 := Nat.le_trans (List.length_filter_le _ _) (candR_len _ _ _)
theorem cntR_len (p : List Ln) (ts : List Tst) (kind : Int) : ∀ k, cntR p ts kind k ≤ k * 1000
  | 0 => by simp [cntR]
  | k + 1 => by
    rw [cntR_succ]
    have := cntR_len p ts kind k
    have := fixR_len p ts k kind
    omega
set_option maxRecDepth 100000 in
set_option maxHeartbeats 8000000 in
theorem r5Count_any (p : List Ln) (ts : List Tst) (kind : Int) (pv tv : Value) (w : World) (hp : LinesAt w pv p) (ht : TestsAt w tv ts) (R : Ending → World → Prop)
    (hR : ∀ w', Grow w w' → R (.returned (.tuple #[.int .i64 (cntO p ts kind), .int .i64 (sgtE p ts kind)])) w') :
    Calls Tryz.prog 34 #[pv, tv, .int .i64 kind] w R := by
  have HP := Lib.hid hp
  have HT := Lib.hid ht
  rw [show cntO p ts kind = if sgtE p ts kind = 0 then cntR p ts kind p.length else 0 from rfl] at hR
  have HR := Lib.hid hR
  obtain ⟨e, he⟩ : ∃ e, sgtE p ts kind = e := ⟨_, rfl⟩
  have hok := fun h : e = 0 => sgtE_ok.1 (he.trans h)
  rw [he] at HR
  have HE := Lib.hid he
  obtain ⟨pa, pc, rfl, r1, r2, _⟩ := hp
  obtain ⟨⟨ta, tc, rfl, _⟩, _⟩ := ht
  clear hR he
  by_cases z1 : e = 0
  rotate_left
  · rw [if_neg z1] at HR
    have t1 : (e != 0) = true := by simpa using z1
    clear hok z1
    go_enter Tryz.func34, Tryz.ntmps34
    go_wp2_with fail
    refine r5sought_any p ts kind _ _ _ HP.out HT.out _ ?_
    intro w1 hg1
    rw [HE.out]
    have HF := Lib.hid (HR.out w1 hg1)
    clear hg1
    go_wp2_with fail
    exact HF.out
  obtain ⟨⟨hv, hvt⟩, ⟨k0, k2⟩, _⟩ := hok z1
  subst z1
  rw [if_pos rfl] at HR
  have hp8 := (valP_ok.1 hv).1
  have HV := Lib.hid hv
  have HVT := Lib.hid hvt
  have HK := Lib.hid (And.intro k0 k2)
  clear hok hv hvt k0 k2
  go_enter Tryz.func34, Tryz.ntmps34
  go_wp2_with fail
  refine r5sought_any p ts kind _ _ _ HP.out HT.out _ ?_
  intro w1 hg1
  rw [HE.out]
  have HG1 := Lib.hid hg1
  clear hg1
  go_wp2_with fail
  go_loopw [9, 10] (fun out i wr => ∃ k : Nat, k ≤ p.length ∧ i = .int .i64 k ∧ Grow w wr ∧ out = .int .i64 (cntR p ts kind k)) (fun _ i _ => p.length - (intOf i).toNat)
  case atStart => exact ⟨0, Nat.zero_le _, rfl, HG1.out, rfl⟩
  case round =>
    obtain ⟨k, hk, rfl, hg, how⟩ := hrel
    have HG := Lib.hid hg
    have hzw := hg.sz
    clear hg
    by_cases hlt : k < p.length
    · have hlt2 : (k : Int) < (p.length : Int) := by omega
      obtain ⟨m, hm⟩ : ∃ m, (fixR p ts k kind).length = m := ⟨_, rfl⟩
      have hml := fixR_len p ts k kind
      rw [hm] at hml
      have HM := Lib.hid hm
      clear hm
      obtain ⟨c, hc⟩ : ∃ c, cntR p ts kind k = c := ⟨_, rfl⟩
      have hcl := cntR_len p ts kind k
      rw [hc] at how hcl
      have HCC := Lib.hid hc
      clear hc
      subst how
      have hwr : IntKind.i64.wrap ((c : Int) + (m : Int)) = (c : Int) + (m : Int) := IntWalk.i64_in _ (by omega)
      go_wp2_with fail
      refine r5fixes_any p ts k kind (candR p (lineAt p k) kind) _ _ _ (HP.out.grow HG.out) (HT.out.grow HG.out) (candR_len _ _ _) (fun x hx => candR_ok hx) hlt HV.out HVT.out (fun R' hR' => rcand_at p _ k kind wr HK.out.1 HK.out.2 HV.out hlt (HP.out.grow HG.out) R' hR') _ ?_
      intro w2 v2 hg2 hv2
      have hv3 : LinesAt w2 v2 (fixR p ts k kind) := hv2
      obtain ⟨a2, c2, rfl, _⟩ := hv3
      rw [HM.out]
      have HG2 := Lib.hid hg2
      clear hg2 hv2
      go_wp2_with fail
      go_roundw
      case rel => exact ⟨k + 1, by omega, by go_num, HG.out.trans HG2.out, by rw [cntR_succ, HCC.out, HM.out]; go_num⟩
      case measure => simp [intOf]; omega
    · have hkn : k = p.length := by omega
      subst hkn
      subst how
      have HF := Lib.hid (HR.out _ HG.out)
      go_wp2_with fail
      exact HF.out

set_option maxRecDepth 100000 in
set_option maxHeartbeats 8000000 in
theorem r5Places_any (p : List Ln) (ts : List Tst) (kind : Int) (pv tv : Value) (w : World) (hp : LinesAt w pv p) (ht : TestsAt w tv ts) (R : Ending → World → Prop)
    (hR : ∀ w' v, Grow w w' → IntsAt w' v (plcO p ts kind) → R (.returned (.tuple #[v, .int .i64 (sgtE p ts kind)])) w') :
    Calls Tryz.prog 36 #[pv, tv, .int .i64 kind] w R := by
  have HP := Lib.hid hp
  have HT := Lib.hid ht
  rw [show plcO p ts kind = if sgtE p ts kind = 0 then plcR p ts kind p.length else [] from rfl] at hR
  have HR := Lib.hid hR
  obtain ⟨e, he⟩ : ∃ e, sgtE p ts kind = e := ⟨_, rfl⟩
  have hok := fun h : e = 0 => sgtE_ok.1 (he.trans h)
  rw [he] at HR
  have HE := Lib.hid he
  obtain ⟨pa, pc, rfl, r1, r2, _⟩ := hp
  obtain ⟨⟨ta, tc, rfl, _⟩, _⟩ := ht
  clear hR he
  by_cases z1 : e = 0
  rotate_left
  · rw [if_neg z1] at HR
    have t1 : (e != 0) = true := by simpa using z1
    clear hok z1
    go_enter Tryz.func36, Tryz.ntmps36
    go_wp2_with fail
    refine r5sought_any p ts kind _ _ _ HP.out HT.out _ ?_
    intro w1 hg1
    rw [HE.out]
    have HF := Lib.hid (HR.out w1 (.slice none 0 0) hg1 (SlcAt.nil _ _ _))
    clear hg1
    go_wp2_with fail
    exact HF.out
  obtain ⟨⟨hv, hvt⟩, ⟨k0, k2⟩, _⟩ := hok z1
  subst z1
  rw [if_pos rfl] at HR
  have hp8 := (valP_ok.1 hv).1
  have HV := Lib.hid hv
  have HVT := Lib.hid hvt
  have HK := Lib.hid (And.intro k0 k2)
  clear hok hv hvt k0 k2
  go_enter Tryz.func36, Tryz.ntmps36
  go_wp2_with fail
  refine r5sought_any p ts kind _ _ _ HP.out HT.out _ ?_
  intro w1 hg1
  rw [HE.out]
  have HG1 := Lib.hid hg1
  clear hg1
  go_wp2_with fail
  go_loopw [9, 10] (fun out i wr => ∃ k : Nat, k ≤ p.length ∧ i = .int .i64 k ∧ Grow w wr ∧ wr.ownsRow w.heap.size 3 1 out (plcR p ts kind k).length ((plcR p ts kind k).flatMap encI)) (fun _ i _ => p.length - (intOf i).toNat)
  case atStart => exact ⟨0, Nat.zero_le _, rfl, HG1.out, World.ownsRow_nil _ _ _ _⟩
  case round =>
    obtain ⟨k, hk, rfl, hg, how⟩ := hrel
    have HG := Lib.hid hg
    have hzw := hg.sz
    clear hg
    by_cases hlt : k < p.length
    · have hlt2 : (k : Int) < (p.length : Int) := by omega
      obtain ⟨m, hm⟩ : ∃ m, (fixR p ts k kind).length = m := ⟨_, rfl⟩
      have hml := fixR_len p ts k kind
      rw [hm] at hml
      have HM := Lib.hid hm
      clear hm
      have HOW := Lib.hid how
      clear how
      have HS := Lib.hid (plcR_succ p ts kind k)
      have HLB := Lib.hid (show (plcR p ts kind k).length < 100000000000 by have := plcR_len p ts kind k; omega)
      by_cases hm0 : 0 < m
      · have t1 : (m : Int) > 0 := by omega
        have HS2 := HS.out
        rw [HM.out, if_pos hm0] at HS2
        have HS3 := Lib.hid HS2
        clear HS2 HS
        go_wp2_with fail
        refine r5fixes_any p ts k kind (candR p (lineAt p k) kind) _ _ _ (HP.out.grow HG.out) (HT.out.grow HG.out) (candR_len _ _ _) (fun x hx => candR_ok hx) hlt HV.out HVT.out (fun R' hR' => rcand_at p _ k kind wr HK.out.1 HK.out.2 HV.out hlt (HP.out.grow HG.out) R' hR') _ ?_
        intro w2 v2 hg2 hv2
        have hv3 : LinesAt w2 v2 (fixR p ts k kind) := hv2
        obtain ⟨a2, c2, rfl, _⟩ := hv3
        rw [HM.out]
        have HG2 := Lib.hid hg2
        clear hg2 hv2
        go_wp2_with (at_builtin; refine wpList_app _ rfl (.tmp 31) (.tmp 33) 35 rfl w.heap.size 3 Tryz.underlying35 info_int rfl (by decide) (by decide) encI encI_len encI_one _ (plcR p ts kind k) rfl ((HG2.out.alloc _).owns HOW.out) _ (k : Int) 1 rfl (newsG _ _ (by simp) (encI (k : Int)) _) HLB.out (by have := HG.out.sz; have := HG2.out.sz; simp; omega) ?_; intro out2 w4 hown2 hgr2)
        have HG4 := Lib.hid (show Grow w w4 from grown_below HOW.out hgr2 (Nat.le_refl _) (by have := HG.out.sz; have := HG2.out.sz; simp; omega) (HG.out.trans (HG2.out.alloc _)))
        have HO2 := Lib.hid hown2
        clear hown2 hgr2
        go_roundw
        case rel => exact ⟨k + 1, by omega, by go_num, HG4.out, by rw [HS3.out]; exact HO2.out⟩
        case measure => simp [intOf]; omega
      · have t1 : ¬ (m : Int) > 0 := by omega
        have HS2 := HS.out
        rw [HM.out, if_neg hm0, List.append_nil] at HS2
        have HS3 := Lib.hid HS2
        clear HS2 HS
        go_wp2_with fail
        refine r5fixes_any p ts k kind (candR p (lineAt p k) kind) _ _ _ (HP.out.grow HG.out) (HT.out.grow HG.out) (candR_len _ _ _) (fun x hx => candR_ok hx) hlt HV.out HVT.out (fun R' hR' => rcand_at p _ k kind wr HK.out.1 HK.out.2 HV.out hlt (HP.out.grow HG.out) R' hR') _ ?_
        intro w2 v2 hg2 hv2
        have hv3 : LinesAt w2 v2 (fixR p ts k kind) := hv2
        obtain ⟨a2, c2, rfl, _⟩ := hv3
        rw [HM.out]
        have HG2 := Lib.hid hg2
        clear hg2 hv2
        go_wp2_with fail
        go_roundw
        case rel => exact ⟨k + 1, by omega, by go_num, HG.out.trans HG2.out, by rw [HS3.out]; exact HG2.out.owns HOW.out⟩
        case measure => simp [intOf]; omega
    · have hkn : k = p.length := by omega
      subst hkn
      have HF := Lib.hid (HR.out _ _ HG.out (slc_of_owns encI_len how))
      clear how
      go_wp2_with fail
      exact HF.out

end Go.Proofs.YtbccbokjecdaaaaGreat
