/-
The walks of the program's write and Write.
The walk of the test whether orders are too long for a statement.
-/
import Derived.Test.YtgjppekjkofdiaaGreatDoorG39
import Derived.Test.YtgjppekjkofdiaaGreatDoorG36
import Derived.Lib.IndexMore
import Derived.Test.YtgjppekjkofdiaaGreatDoorG26
import Derived.BigQuiet
namespace Go.Proofs.YtgjppekjkofdiaaGreatDoor
open Go.RowKit

/-! ### A book, line by line -/
def dl (t : ByteArray) : List UInt8 := t.data.toList
def bkS (l : List ByteArray) : List UInt8 := Bk.bookL 0 (l.map dl)
def bkQ (l : List ByteArray) : Int := Bk.sumsL 0 (l.map dl)
theorem bkQ_bd (l : List ByteArray) : 0 ≤ bkQ l ∧ bkQ l < 1000003 := Bk.sumsL_bd _ (by decide) (by decide)
theorem bk_snoc {l : List ByteArray} {k : Nat} {t : ByteArray} (h : l[k]? = some t) : bkQ (l.take (k + 1)) = Bk.sumL (bkQ (l.take k)) (dl t) ∧ bkS (l.take (k + 1)) = bkS (l.take k) ++ Bk.lineL (Bk.sumL (bkQ (l.take k)) (dl t)) (dl t) := by
  unfold bkQ bkS
  rw [List.take_add_one, h, Option.toList_some, List.map_append, Bk.sumsL_append, Bk.bookL_append]
  refine ⟨rfl, ?_⟩
  show _ ++ (_ ++ []) = _
  rw [List.append_nil]
theorem line_len {q : Int} (h0 : 0 ≤ q) (h1 : q < 1000003) (t : List UInt8) : (Bk.lineL q t).length ≤ t.length + 23 := by
  have := Lib.itoa_length_le q (by omega) (by omega)
  unfold Bk.lineL
  simp; omega
theorem book_len (l : List ByteArray) (h : ∀ t ∈ l, t.size ≤ 1000000) : ∀ k, k ≤ l.length → (bkS (l.take k)).length ≤ k * 1000023
  | 0, _ => by simp [bkS, Bk.bookL]
  | k + 1, hk => by
    obtain ⟨t, ht⟩ : ∃ t, l[k]? = some t := ⟨_, List.getElem?_eq_getElem (by omega)⟩
    rw [(bk_snoc ht).2, List.length_append]
    have h1 := book_len l h k (by omega)
    have h2 := h t (List.mem_of_getElem? ht)
    obtain ⟨b0, b1⟩ := bkQ_bd (l.take k)
    obtain ⟨s0, s1⟩ := Bk.sumL_bd (dl t) b0 b1
    have h3 := line_len s0 s1 (dl t)
    have h4 : (dl t).length = t.size := (tx_len t).symm
    omega

theorem bld_grow {T e : TypeId} {B b : Nat} {p : Value} {bs : List Value} {w w' : World} (h : Lib.BuilderAt T e B b p bs w) (g : Grow w w') : Lib.BuilderAt T e B b p bs w' := by
  obtain ⟨hB, v, hb, hown, hne⟩ := h
  exact ⟨hB, v, g.blk hb, g.owns hown, hne⟩
set_option maxHeartbeats 4000000 in
theorem write_any (l : List ByteArray) (v : Value) (w : World) (hg : Glob w) (hl : TextsAt w v l) (hsz : ∀ t ∈ l, t.size ≤ 1000000) (hn : l.length ≤ 100000) (R : Ending → World → Prop)
    (hR : ∀ w', Grow w w' → R (.returned (.string (tb (bkS l)))) w') :
    Calls Tryz.prog 60 #[v] w R := by
  have HR := Lib.hid hR
  have HG := Lib.hid hg
  have HL := Lib.hid hl
  have HSZ := Lib.hid hsz
  obtain ⟨va, vc, rfl, v1, v2, jk⟩ := hl
  clear hR hg hsz jk
  go_enter Tryz.func60, Tryz.ntmps60
  go_wp2_with fail
  go_loopw [4, 11] (fun s4 s11 wr => ∃ k : Nat, k ≤ l.length ∧ s11 = .int .i64 k ∧ s4 = .int .i64 (bkQ (l.take k)) ∧ Grow w wr ∧ Lib.IsBuilder 163 5 w.heap.size w.heap.size (Lib.byteCells (bkS (l.take k))) wr) (fun _ s11 _ => l.length - (intOf s11).toNat)
  case atStart =>
    exact ⟨0, Nat.zero_le _, rfl, rfl, (Grow.refl w).alloc _, .inl ⟨Nat.le_refl _, .slice none 0 0, heap_alloc_new w (.cells #[.pointer none, .slice none 0 0] 163), World.ownsRow_nil _ _ _ _, by simp [Value.ownBlock]⟩⟩
  case round =>
    obtain ⟨k, hk, rfl, rfl, hg, hb⟩ := hrel
    have HGR := Lib.hid hg
    have HB := Lib.hid hb
    have hzr := hg.sz
    have hbl := book_len l HSZ.out k hk
    clear hg hb
    by_cases hlt : k < l.length
    · have hltz : (k : Int) < (l.length : Int) := by omega
      obtain ⟨t, ht⟩ : ∃ t, l[k]? = some t := ⟨_, List.getElem?_eq_getElem hlt⟩
      obtain ⟨_, _, rfl, _, y0⟩ := texts_at (HL.out.grow HGR.out) ht
      obtain ⟨q, hq⟩ : ∃ q, bkQ (l.take k) = q := ⟨_, rfl⟩
      obtain ⟨q0, q1⟩ := bkQ_bd (l.take k)
      obtain ⟨e1, e2⟩ := bk_snoc ht
      have hts := HSZ.out t (List.mem_of_getElem? ht)
      have htl : (dl t).length = t.size := (tx_len t).symm
      rw [hq] at q0 q1 e1 e2 ⊢
      have HE1 := Lib.hid e1
      have HE2 := Lib.hid e2
      clear ht e1 e2 hq
      go_wp2_with fail
      refine line_any q t (by omega) _ (HG.out.grow HGR.out) _ ?_
      intro w1 hg1
      rw [Bk.sumS_of q0 q1]
      obtain ⟨s0, s1⟩ := Bk.sumL_bd (dl t) q0 q1
      have hll := line_len s0 s1 (dl t)
      have HG1 := Lib.hid (HGR.out.trans hg1)
      have HB1 := Lib.hid (show Lib.IsBuilder 163 5 w.heap.size w.heap.size (Lib.byteCells (bkS (l.take k))) w1 from HB.out.imp (fun h => bld_grow h hg1) (fun h => bld_grow h hg1))
      have hz1 := hg1.sz
      rw [show t.data.toList = dl t from rfl]
      obtain ⟨sm, hsm⟩ : ∃ z, Bk.sumL q (dl t) = z := ⟨_, rfl⟩
      obtain ⟨ln, hln⟩ : ∃ z, Bk.lineL sm (dl t) = z := ⟨_, rfl⟩
      rw [hsm] at hll HE1 HE2
      rw [hln] at hll HE2
      rw [hsm, hln]
      clear hg1 hsm hln
      go_wp2_with fail
      refine (writeString_any w.heap.size w.heap.size _ (tb ln) _ HB1.out (by rw [Lib.byteCells_length, tb_size]; omega) (by omega)).mono ?_
      rintro e w2 ⟨rfl, hb2, hbl2⟩
      have HG2 := Lib.hid (show Grow w w2 from Below.trans HG1.out hbl2)
      have HB2 := Lib.hid (show Lib.IsBuilder 163 5 w.heap.size w.heap.size (Lib.byteCells (bkS (l.take (k + 1)))) w2 from .inr (by rw [HE2.out, Lib.byteCells_append]; rw [Lib.strCells_eq, tb_data] at hb2; exact hb2))
      clear hb2 hbl2
      go_wp2_with fail
      go_roundw
      case rel => exact ⟨k + 1, by omega, by go_num, by rw [HE1.out], HG2.out, HB2.out⟩
      case measure => simp [intOf]; omega
    · have hk2 : k = l.length := by omega
      subst hk2
      have hltz : ¬ (l.length : Int) < (l.length : Int) := by omega
      rw [List.take_length] at HB
      go_wp2_with fail
      refine (Tryz.Builder_String_any w.heap.size w.heap.size (bkS l) _ HB.out hzr).mono ?_
      rintro e w2 ⟨rfl, hbl2⟩
      have HF := Lib.hid (HR.out w2 (Below.trans HGR.out hbl2))
      clear hbl2
      go_wp2_with fail
      exact HF.out

/-- What Write answers. -/
def okL (l : List ByteArray) : Bool := l.all fun t => Bk.okT (dl t)
def wrE (l : List ByteArray) : Int := if 80 < l.length then 3 else if okL l then 0 else 1
def wrS (l : List ByteArray) : List UInt8 := if 80 < l.length then [] else if okL l then bkS l else []
theorem okL_no {l : List ByteArray} {k : Nat} {t : ByteArray} (h : l[k]? = some t) (hn : Bk.okT (dl t) = false) : okL l = false := by
  unfold okL
  rw [← Bool.not_eq_true, List.all_eq_true]
  intro h2
  have := h2 t (List.mem_of_getElem? h)
  rw [hn] at this; cases this
theorem okL_yes {l : List ByteArray} (h : ∀ t ∈ l, Bk.okT (dl t) = true) : okL l = true := List.all_eq_true.2 h
set_option maxHeartbeats 4000000 in
theorem Write_any (l : List ByteArray) (v : Value) (w : World) (hg : Glob w) (hl : TextsAt w v l) (hsz : ∀ t ∈ l, t.size ≤ 1000000) (R : Ending → World → Prop)
    (hR : ∀ w', Grow w w' → R (.returned (.tuple #[.string (tb (wrS l)), .int .i64 (wrE l)])) w') :
    Calls Tryz.prog 29 #[v] w R := by
  have HR := Lib.hid hR
  have HG := Lib.hid hg
  have HL := Lib.hid hl
  have HSZ := Lib.hid hsz
  obtain ⟨va, vc, rfl, v1, v2, jk⟩ := hl
  clear hR hg hsz jk
  go_enter Tryz.func29, Tryz.ntmps29
  by_cases h80 : 80 < l.length
  · have hz : decide ((l.length : Int) > 80) = true := by rw [decide_eq_true_eq]; omega
    have hf := HR.out w (Grow.refl _)
    unfold wrS wrE at hf
    rw [if_pos h80, if_pos h80] at hf
    have HF := Lib.hid (show R (.returned (.tuple #[.string ⟨#[]⟩, .int .i64 3])) w from hf)
    clear hf
    go_wp2_with fail
    exact HF.out
  have hz : decide ((l.length : Int) > 80) = false := by rw [decide_eq_false_iff_not]; omega
  go_wp2_with fail
  go_loopw [11] (fun s11 wr => ∃ k : Nat, k ≤ l.length ∧ s11 = .int .i64 k ∧ Grow w wr ∧ ∀ t ∈ l.take k, Bk.okT (dl t) = true) (fun s11 _ => l.length - (intOf s11).toNat)
  case atStart => exact ⟨0, Nat.zero_le _, rfl, Grow.refl w, by simp⟩
  case round =>
    obtain ⟨k, hk, rfl, hg, hall⟩ := hrel
    have HGR := Lib.hid hg
    have HALL := Lib.hid hall
    clear hg hall
    by_cases hlt : k < l.length
    · have hltz : (k : Int) < (l.length : Int) := by omega
      obtain ⟨t, ht⟩ : ∃ t, l[k]? = some t := ⟨_, List.getElem?_eq_getElem hlt⟩
      obtain ⟨_, _, rfl, _, y0⟩ := texts_at (HL.out.grow HGR.out) ht
      have hts := HSZ.out t (List.mem_of_getElem? ht)
      have HT := Lib.hid ht
      clear ht
      go_wp2_with fail
      refine isText_any t (by omega) _ _ ?_
      intro w1 hg1
      have HG1 := Lib.hid (HGR.out.trans hg1)
      rw [show t.data.toList = dl t from rfl]
      clear hg1
      cases hok : Bk.okT (dl t) with
      | false =>
        have hf := HR.out w1 HG1.out
        unfold wrS wrE at hf
        rw [if_neg h80, if_neg h80, okL_no HT.out hok] at hf
        have HF := Lib.hid (show R (.returned (.tuple #[.string ⟨#[]⟩, .int .i64 1])) w1 from hf)
        clear hf hok
        go_wp2_with fail
        exact HF.out
      | true =>
        have HOK := Lib.hid hok
        clear hok
        go_wp2_with fail
        go_roundw
        case rel =>
          refine ⟨k + 1, by omega, by go_num, HG1.out, fun u hu => ?_⟩
          rw [List.take_add_one, HT.out] at hu
          rcases List.mem_append.1 hu with hu | hu
          · exact HALL.out u hu
          · simp at hu; subst hu; exact HOK.out
        case measure => simp [intOf]; omega
    · have hk2 : k = l.length := by omega
      subst hk2
      have hltz : ¬ (l.length : Int) < (l.length : Int) := by omega
      have hoky : okL l = true := okL_yes (by have := HALL.out; rwa [List.take_length] at this)
      have HOKY := Lib.hid hoky
      clear hoky
      go_wp2_with fail
      refine write_any l _ _ (HG.out.grow HGR.out) (HL.out.grow HGR.out) HSZ.out (by omega) _ ?_
      intro w2 hg2
      have hf := HR.out w2 (HGR.out.trans hg2)
      unfold wrS wrE at hf
      rw [if_neg h80, if_neg h80, HOKY.out, if_pos rfl, if_pos rfl] at hf
      have HF := Lib.hid hf
      clear hf hg2
      go_wp2_with fail
      exact HF.out
end Go.Proofs.YtgjppekjkofdiaaGreatDoor

namespace Go.Proofs.YtgjppekjkofdiaaGreatDoor
open Go.RowKit

def lngT (l : List ByteArray) : Bool := l.any (fun t => decide (400 < t.size)) || decide (300 < l.length)
theorem lngT_no {l : List ByteArray} (h : lngT l = false) : (∀ t ∈ l, t.size ≤ 400) ∧ l.length ≤ 300 := by
  unfold lngT at h
  rw [Bool.or_eq_false_iff, decide_eq_false_iff_not] at h
  refine ⟨fun t ht => ?_, by omega⟩
  have := List.any_eq_false.1 h.1 t ht
  simp at this; exact this
theorem lngT_hit {l : List ByteArray} {k : Nat} {t : ByteArray} (ht : l[k]? = some t) (h : 400 < t.size) : lngT l = true := by
  unfold lngT
  rw [Bool.or_eq_true]
  exact .inl (List.any_eq_true.2 ⟨t, List.mem_of_getElem? ht, by simpa using h⟩)
theorem lngT_end {l : List ByteArray} (h : ∀ t ∈ l, t.size ≤ 400) : lngT l = decide (300 < l.length) := by
  unfold lngT
  rw [show l.any (fun t => decide (400 < t.size)) = false by rw [List.any_eq_false]; intro t ht; have := h t ht; simp; exact this, Bool.false_or]
set_option maxHeartbeats 4000000 in
theorem Long9_any (l : List ByteArray) (v : Value) (w : World) (hl : TextsAt w v l) (R : Ending → World → Prop) (hR : ∀ w', Grow w w' → R (.returned (.bool (lngT l))) w') :
    Calls Tryz.prog 10 #[v] w R := by
  have HR := Lib.hid hR
  have HL := Lib.hid hl
  obtain ⟨va, vc, rfl, v1, v2, jk⟩ := hl
  clear hR jk
  go_enter Tryz.func10, Tryz.ntmps10
  go_wp2_with fail
  go_loopw [3] (fun s3 wr => ∃ k : Nat, k ≤ l.length ∧ s3 = .int .i64 k ∧ Grow w wr ∧ ∀ t ∈ l.take k, t.size ≤ 400) (fun s3 _ => l.length - (intOf s3).toNat)
  case atStart => exact ⟨0, Nat.zero_le _, rfl, Grow.refl w, by simp⟩
  case round =>
    obtain ⟨k, hk, rfl, hg, hall⟩ := hrel
    have HGR := Lib.hid hg
    have HALL := Lib.hid hall
    clear hg hall
    by_cases hlt : k < l.length
    · have hltz : (k : Int) < (l.length : Int) := by omega
      obtain ⟨t, ht⟩ : ∃ t, l[k]? = some t := ⟨_, List.getElem?_eq_getElem hlt⟩
      obtain ⟨b, o, rfl, hb, y0⟩ := texts_at (HL.out.grow HGR.out) ht
      have HT := Lib.hid ht
      clear ht
      by_cases h4 : 400 < t.size
      · have h4z : decide ((t.size : Int) > 400) = true := by rw [decide_eq_true_eq]; omega
        have hf := HR.out wr HGR.out
        rw [lngT_hit HT.out h4] at hf
        have HF := Lib.hid hf
        clear hf
        go_wp2_with (go_quiet (fail))
        exact HF.out
      · have h4z : decide ((t.size : Int) > 400) = false := by rw [decide_eq_false_iff_not]; omega
        go_wp2_with (go_quiet (fail))
        go_roundw
        case rel =>
          refine ⟨k + 1, by omega, by go_num, HGR.out, fun u hu => ?_⟩
          rw [List.take_add_one, HT.out] at hu
          rcases List.mem_append.1 hu with hu | hu
          · exact HALL.out u hu
          · simp at hu; subst hu; omega
        case measure => simp [intOf]; omega
    · obtain rfl : k = l.length := by omega
      have hltz : ¬ (l.length : Int) < (l.length : Int) := by omega
      have hf := HR.out wr HGR.out
      rw [lngT_end (by have := HALL.out; rwa [List.take_length] at this)] at hf
      have hd : decide ((l.length : Int) > 300) = decide (300 < l.length) := by rw [decide_eq_decide]; omega
      obtain ⟨q, hq⟩ : ∃ q, decide (300 < l.length) = q := ⟨_, rfl⟩
      rw [hq] at hf hd
      have HF := Lib.hid hf
      clear hf hq
      go_wp2_with fail
      exact HF.out
end Go.Proofs.YtgjppekjkofdiaaGreatDoor
