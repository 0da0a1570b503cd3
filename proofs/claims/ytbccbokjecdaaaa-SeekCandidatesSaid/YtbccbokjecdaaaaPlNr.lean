/- The document's near, as it is written, is what the templates are. No program is named. -/
import Derived.Test.YtbccbokjecdaaaaPlAll
namespace Go.Proofs.Ytbccbokjecdaaaa
open Go.RowKit

def fieldsN (l m : Ln) : Int := (if l.op = m.op then 0 else 1) + (if l.d = m.d then 0 else 1) + (if l.a = m.a then 0 else 1) + (if l.b = m.b then 0 else 1)
def rnearB (l m : Ln) : Bool :=
  if l = m then false else if l.op = 0 then false else if m.op = 0 then true
  else if m.op ≠ l.op then (if 3 ≤ l.op ∧ l.op ≤ 6 then (if 3 ≤ m.op ∧ m.op ≤ 6 then decide (fieldsN l m = 1) else false) else false)
  else if l.d = m.d ∧ 3 ≤ l.op ∧ l.a = m.b ∧ l.b = m.a then true
  else if fieldsN l m ≠ 1 then false
  else if l.op = 1 ∧ l.a ≠ m.a then decide (l.a - m.a = 1 ∨ m.a - l.a = 1)
  else if l.op = 7 ∧ l.d ≠ m.d then decide (l.d - m.d = 1 ∨ m.d - l.d = 1)
  else true
theorem fieldsN_cases (l m : Ln) : ∃ x0 x1 x2 x3 : Int, fieldsN l m = x0 + x1 + x2 + x3 ∧ ((l.op = m.op ∧ x0 = 0) ∨ (l.op ≠ m.op ∧ x0 = 1)) ∧ ((l.d = m.d ∧ x1 = 0) ∨ (l.d ≠ m.d ∧ x1 = 1)) ∧ ((l.a = m.a ∧ x2 = 0) ∨ (l.a ≠ m.a ∧ x2 = 1)) ∧ ((l.b = m.b ∧ x3 = 0) ∨ (l.b ≠ m.b ∧ x3 = 1)) := by
  refine ⟨_, _, _, _, rfl, ?_, ?_, ?_, ?_⟩ <;> (split <;> omega)
set_option maxHeartbeats 4000000 in
theorem rnear_eq {l m : Ln} (hl : l.ok = true) (hm : m.ok = true) : rnearB l m = nearB l m := by
  rw [near_eq hl hm, Bool.eq_iff_iff, decide_eq_true_eq]
  have cl := ok_cases hl
  have cm := ok_cases hm
  obtain ⟨x0, x1, x2, x3, hf, c0, c1, c2, c3⟩ := fieldsN_cases l m
  have z : m = ⟨0, 0, 0, 0⟩ ↔ m.op = 0 := ⟨fun e => by rw [e], fun e => ok_none hm e⟩
  have ne : m = l ↔ (m.op = l.op ∧ m.d = l.d ∧ m.a = l.a ∧ m.b = l.b) := ⟨fun e => by rw [e]; exact ⟨rfl, rfl, rfl, rfl⟩, fun e => ln_eq e.1 e.2.1 e.2.2.1 e.2.2.2⟩
  unfold rnearB tmpP
  have ne' : l = m ↔ (m.op = l.op ∧ m.d = l.d ∧ m.a = l.a ∧ m.b = l.b) := eq_comm.trans ne
  have neN : m ≠ l ↔ ¬ (m.op = l.op ∧ m.d = l.d ∧ m.a = l.a ∧ m.b = l.b) := not_congr ne
  simp only [hf, z, neN, ne']
  clear hf z ne ne' neN hl hm
  generalize l.op = lo at *
  generalize l.d = ld at *
  generalize l.a = la at *
  generalize l.b = lb at *
  generalize m.op = mo at *
  generalize m.d = md at *
  generalize m.a = ma at *
  generalize m.b = mb at *
  by_cases h1 : (mo = lo ∧ md = ld ∧ ma = la ∧ mb = lb)
  · rw [if_pos h1]; simp [h1]
  · rw [if_neg h1]
    by_cases h2 : lo = 0
    · rw [if_pos h2]; simp [h2]
    · rw [if_neg h2]
      by_cases h3 : mo = 0
      · rw [if_pos h3]; simp [h2, h3]; omega
      · rw [if_neg h3]
        by_cases h4 : mo ≠ lo
        · rw [if_pos h4]
          obtain rfl : x0 = 1 := by rcases c0 with ⟨c, _⟩ | ⟨_, c⟩; exact absurd c.symm h4; exact c
          clear cl cm c0 h1
          by_cases h5 : 3 ≤ lo ∧ lo ≤ 6
          · rw [if_pos h5]
            by_cases h6 : 3 ≤ mo ∧ mo ≤ 6
            · rw [if_pos h6, decide_eq_true_eq]
              rcases c1 with ⟨c1, rfl⟩ | ⟨c1, rfl⟩ <;> rcases c2 with ⟨c2, rfl⟩ | ⟨c2, rfl⟩ <;> rcases c3 with ⟨c3, rfl⟩ | ⟨c3, rfl⟩ <;> omega
            · rw [if_neg h6]; simp only [Bool.false_eq_true, false_iff]; omega
          · rw [if_neg h5]; simp only [Bool.false_eq_true, false_iff]; omega
        · rw [if_neg h4]
          have h4' : mo = lo := by omega
          clear h4
          obtain rfl : x0 = 0 := by rcases c0 with ⟨_, c⟩ | ⟨c, _⟩; exact c; exact absurd h4'.symm c
          clear c0
          have hb : (lo = 1 ∨ lo = 2 → lb = 0 ∧ mb = 0) ∧ 1 ≤ lo ∧ lo ≤ 7 := by
            rcases cl with h | h | h | h | h <;> rcases cm with k | k | k | k | k <;> omega
          clear cl cm
          obtain ⟨hb, lo1, lo7⟩ := hb
          by_cases h5 : ld = md ∧ 3 ≤ lo ∧ la = mb ∧ lb = ma
          · rw [if_pos h5]; simp only [true_iff]; clear c1 c2 c3 hb; omega
          · rw [if_neg h5]
            have hcase : (lo = 1 ∧ lb = 0 ∧ mb = 0) ∨ (lo = 2 ∧ lb = 0 ∧ mb = 0) ∨ (3 ≤ lo ∧ lo ≤ 6) ∨ lo = 7 := by
              have : lo = 1 ∨ lo = 2 ∨ (3 ≤ lo ∧ lo ≤ 6) ∨ lo = 7 := by omega
              rcases this with e | e | e | e
              · exact .inl ⟨e, hb (.inl e)⟩
              · exact .inr (.inl ⟨e, hb (.inr e)⟩)
              · exact .inr (.inr (.inl e))
              · exact .inr (.inr (.inr e))
            clear hb lo1 lo7
            rcases c1 with ⟨c1, rfl⟩ | ⟨c1, rfl⟩ <;> rcases c2 with ⟨c2, rfl⟩ | ⟨c2, rfl⟩ <;> rcases c3 with ⟨c3, rfl⟩ | ⟨c3, rfl⟩ <;>
              rcases hcase with hc | hc | hc | hc <;>
              (first
                | (exfalso; omega)
                | (rw [if_pos (by omega)]; simp only [Bool.false_eq_true, false_iff]; omega)
                | (rw [if_neg (by omega), if_pos (by omega), decide_eq_true_eq]; omega)
                | (rw [if_neg (by omega), if_neg (by omega), if_pos (by omega), decide_eq_true_eq]; omega)
                | (rw [if_neg (by omega), if_neg (by omega), if_neg (by omega)]; simp only [true_iff]; omega))
/-- The templates are what of all lines is near. -/
theorem tmpl_filter {l : Ln} (hl : l.ok = true) : tmpl l = allR.filter (fun x => rnearB l x) := by
  have h1 : tmpl l = ordL (tmpl l) := by
    unfold tmpl
    split
    · rfl
    · unfold validL
      exact IsOrd.eq ⟨(ordL_is _).1, fun x => Iff.rfl⟩
  rw [h1, ord_of_all (fun x hx => (mem_tmpl.1 hx).2.2.2)]
  refine List.filter_congr fun x hx => ?_
  have hx2 := mem_allR.1 hx
  rw [rnear_eq hl hx2]
  unfold nearB
  rw [hl, hx2]; rfl
end Go.Proofs.Ytbccbokjecdaaaa
