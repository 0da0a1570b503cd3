/- The walks of the library's sort, Compact and DeleteFunc on lines. -/
import Derived.Test.YtbccbokjecdaaaaShB
import Derived.Test.YtbccbokjecdaaaaSkA
import Derived.Test.YtbccbokjecdaaaaPlCm
import Derived.Test.YtbccbokjecdaaaaShelf
import Derived.Deep.QuietTactic
import Derived.BigQuiet
namespace Go.Proofs.Ytbccbokjecdaaaa
open Go.RowKit

set_option maxHeartbeats 1000000 in
theorem sortLn_any (xs : List Ln) (g cap B : Nat) (w : World) (hrow : RowL w g 0 xs) (hg : g < w.heap.size) (hB : B ≤ g) (hn : xs.length < 4611686018427387904) (R : Ending → World → Prop)
    (hR : ∀ w' ys, Below B w w' → g < w'.heap.size → RowL w' g 0 ys → ys.length = xs.length → (∀ x, x ∈ ys ↔ x ∈ xs) → WeakL ys → R (.returned (.tuple #[])) w') :
    Calls Try.prog 32 #[.slice (some ⟨g, 0, none⟩) xs.length cap, .func (.func 19) #[] #[]] w R := by
  have eg : ∀ args w, (callFunc 19 args).run Try.prog w = .ok (.enter 19 args) w := enters_of Try.func19 (by kernel_rfl) rfl
  have hcon := AnyQ.slices_SortFunc Try.sortLn 4 Try.isAgg23 Try.sizeOf23 encL encL_len (fun x v hv => encL_one x v hv) cmpL swoL 19 #[] g 0 cap xs.toArray w eg (cmpL_lays g 0 _ w) hrow.holds hg (by simpa using hn)
  change Calls Try.prog 32 _ _ _ at hcon
  rw [show xs.toArray.size = xs.length by simp] at hcon
  refine hcon.mono ?_
  rintro e w' ⟨rfl, d', n, os, ⟨hsz, _, hperm⟩, hs, rfl⟩
  have hsz' : d'.size = xs.length := by simpa using hsz
  have hall : d'.toList.Perm xs := by
    have h1 : (d'.extract 0 xs.length).toList = d'.toList := by rw [← hsz']; simp
    have h2 : ((xs.toArray).extract 0 xs.length).toList = xs := by simp
    rw [h1, h2] at hperm; exact hperm
  have hbel : Below B w (sortWorldK encL 4 w g 0 n d' os) := by
    unfold sortWorldK
    refine below_growS os (below_putRow id w n g 0 (Go.Sort.flatK encL 4 d') hB) ?_
    have := (below_putRow id w n g 0 (Go.Sort.flatK encL 4 d') hB).size
    have hz : w.heap.size ≤ (Go.Sort.putRowK encL 4 (Go.Sort.ahead w n) g 0 d').heap.size := by
      show w.heap.size ≤ (w.heap.modify g _).size; simp
    omega
  have hlt : g < (sortWorldK encL 4 w g 0 n d' os).heap.size := by
    have := size_sortWorldK_c encL 4 w g 0 n d' os; omega
  have hhold : RowL (sortWorldK encL 4 w g 0 n d' os) g 0 d'.toList := by
    refine RowL.of_holds ?_
    have := holdsK_sortWorldK_c encL 4 w g 0 xs.toArray d' n os hrow.holds hg (by simpa using hsz')
    simpa using this
  refine hR _ d'.toList hbel hlt hhold (by simpa using hsz') (fun x => hall.mem_iff) ?_
  unfold WeakL
  rw [List.pairwise_iff_getElem]
  intro i j hi hj hij
  have hj' : j < d'.size := by simpa using hj
  have := hs i j (Nat.zero_le _) hij (by rw [← hsz']; exact hj')
  have h2 : decide (cmpL d'[j]! d'[i]! < 0) = false := this
  rw [cmpL_lt] at h2
  have h3 := of_decide_eq_false h2
  rw [getElem!_pos d' j hj', getElem!_pos d' i (by omega)] at h3
  simpa using h3

/-! ### Clear -/
def zerosL (n : Nat) : List Value := (Builtin.zeroCells (Value.agg #[.int .i64 0, .int .i64 0, .int .i64 0, .int .i64 0]).cells n).toList
theorem zerosL_length (n : Nat) : (zerosL n).length = n * 4 := by
  unfold zerosL; rw [Array.length_toList, size_zeroCells]; rfl
theorem zerosL_one (n : Nat) : ∀ v ∈ zerosL n, v.oneCell' = true := by
  intro v hv
  unfold zerosL Builtin.zeroCells at hv
  rw [Array.toList_map, List.mem_map] at hv
  obtain ⟨i, _, rfl⟩ := hv
  have h4 : (Value.agg #[.int .i64 0, .int .i64 0, .int .i64 0, .int .i64 0]).cells.size = 4 := rfl
  rw [h4]
  have : i % 4 = 0 ∨ i % 4 = 1 ∨ i % 4 = 2 ∨ i % 4 = 3 := by omega
  rcases this with h | h | h | h <;> rw [h] <;> rfl
theorem run_clear_lines (w : World) (ty g o n c : Nat) (hn : 0 < n) (hc : ∀ j, j < n * 4 → (w.cell? ⟨g, o + j, none⟩).isSome = true) (hf : ∀ j, j < n * 4 → w.frozen? ⟨g, o + j, none⟩ = false) :
    (Builtin.clear_ #[29] ty #[.slice (some ⟨g, o, none⟩) n c]).run Try.prog w = .ok (.tuple #[]) (w.setCells g o (zerosL n)) := by
  have hst := run_storeCells_cells (P := Try.prog) g o (zerosL n) 0 w (by rw [zerosL_length]; simpa using hc) (by rw [zerosL_length]; simpa using hf) (zerosL_one n)
  simp only [Nat.add_zero] at hst
  obtain ⟨m, rfl⟩ : ∃ m, n = m + 1 := ⟨n - 1, by omega⟩
  unfold zerosL at hst ⊢
  simp [Builtin.clear_, run_underlying Try.underlying29, hst]
theorem RowL.cleared {w : World} {g : Nat} {ys : List Ln} (h : RowL w g 0 ys) (k n : Nat) : RowL (w.setCells g (k * 4) (zerosL n)) g 0 (ys.take k) := by
  intro j l hj i u hu
  have hi : i < 4 := by have := (List.getElem?_eq_some_iff.1 hu).1; rw [encL_len] at this; exact this
  rw [List.getElem?_take] at hj
  split at hj
  · next hjk =>
    obtain ⟨h1, h2⟩ := h j l hj i u hu
    rw [World.frozen?_setCells, World.cell?_setCells_out g (zerosL n) (k * 4) w ⟨g, 0 + j * 4 + i, none⟩ (fun _ _ => .inl (by dsimp only; omega))]
    exact ⟨h1, h2⟩
  · cases hj
theorem RowL.isSome {w : World} {g : Nat} {ys : List Ln} (h : RowL w g 0 ys) {t : Nat} (ht : t < ys.length * 4) : (w.cell? ⟨g, t, none⟩).isSome = true ∧ w.frozen? ⟨g, t, none⟩ = false := by
  have hq : t / 4 < ys.length := by omega
  obtain ⟨h1, h2⟩ := h (t / 4) _ (List.getElem?_eq_getElem hq) (t % 4) _ (encL_get! _ _ (Nat.mod_lt _ (by omega)))
  rw [show 0 + t / 4 * 4 + t % 4 = t by omega] at h1 h2
  exact ⟨by rw [h1]; rfl, h2⟩
theorem below_setCells {B : Nat} {a : World} (g : Nat) (hB : B ≤ g) : ∀ (vs : List Value) (o : Nat) (w : World), Below B a w → Below B a (w.setCells g o vs)
  | [], _, _, h => h
  | _ :: r, o, _, h => below_setCells g hB r (o + 1) _ (Below.setCell h hB _)
theorem size_setCells' (g : Nat) : ∀ (vs : List Value) (o : Nat) (w : World), (w.setCells g o vs).heap.size = w.heap.size
  | [], _, _ => rfl
  | _ :: r, _, _ => by rw [World.setCells, size_setCells' g r, World.size_setCell]
end Go.Proofs.Ytbccbokjecdaaaa
