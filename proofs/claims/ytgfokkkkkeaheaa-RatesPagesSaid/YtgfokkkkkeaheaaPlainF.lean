/- Plain laws of float64, on the bits: how two numbers stand to each other. -/
import Derived.WalkKit
import Derived.WalkLawsBesides
namespace Go.Proofs.Ytgfokkkkkeaheaa
namespace Fl
open Ieee

def B : Nat := 4503599627370496
def S : Nat := 9223372036854775808
def I : Nat := 9218868437227405312
/-- the bits without the sign -/
def rung (b : Nat) : Nat := b % S
def neg (b : Nat) : Bool := b / S % 2 == 1
/-- no number -/
def nan (b : Nat) : Bool := decide (I < rung b)
/-- a number that rises as the numbers do; the two noughts are one -/
def key (b : Nat) : Int := if neg b = true then -(rung b : Int) else (rung b : Int)

theorem sw : double.signWeight = S := by decide
theorem bn : double.binade = B := by decide
theorem ir : double.infRung = I := by decide

/-- what a rung stands for, in units of the least one -/
def V (r : Nat) : Nat := if r < B then r else (B + r % B) * 2 ^ (r / B - 1)
def up (r : Nat) : Nat := if r < B then 0 else r / B - 1
def mag (r : Nat) : Nat := if r < B then r else B + r % B
theorem V_is (r : Nat) : V r = mag r * 2 ^ up r := by
  unfold V mag up
  split <;> simp

theorem V_mono {r r' : Nat} (h : r < r') : V r < V r' := by
  have hB : 0 < B := by decide
  unfold V
  by_cases h1 : r < B
  · rw [if_pos h1]
    by_cases h2 : r' < B
    · rw [if_pos h2]; exact h
    · rw [if_neg h2]
      have : 1 ≤ 2 ^ (r' / B - 1) := Nat.one_le_two_pow
      have h3 : (B + r' % B) * 1 ≤ (B + r' % B) * 2 ^ (r' / B - 1) := Nat.mul_le_mul_left _ this
      omega
  · rw [if_neg h1, if_neg (by omega)]
    have hq : r / B ≤ r' / B := Nat.div_le_div_right (by omega)
    have d1 := Nat.div_add_mod r B
    have d2 := Nat.div_add_mod r' B
    have m1 := Nat.mod_lt r hB
    by_cases h3 : r / B = r' / B
    · rw [h3] at d1 ⊢
      have : r % B < r' % B := by omega
      exact Nat.mul_lt_mul_of_pos_right (by omega) (Nat.two_pow_pos _)
    · have h4 : 1 ≤ r / B := (Nat.one_le_div_iff hB).2 (by omega)
      have e : B * 2 ^ (r / B) = (2 * B) * 2 ^ (r / B - 1) := by
        obtain ⟨q, hq⟩ : ∃ q, r / B = q + 1 := ⟨r / B - 1, by omega⟩
        rw [hq, Nat.pow_succ, Nat.add_sub_cancel, Nat.mul_comm (2 ^ q) 2, ← Nat.mul_assoc, Nat.mul_comm B 2]
      have h5 : (B + r % B) * 2 ^ (r / B - 1) < (2 * B) * 2 ^ (r / B - 1) := Nat.mul_lt_mul_of_pos_right (by omega) (Nat.two_pow_pos _)
      have h6 : B * 2 ^ (r / B) ≤ B * 2 ^ (r' / B - 1) := Nat.mul_le_mul_left _ (Nat.pow_le_pow_right (by omega) (by omega))
      have h7 : B * 2 ^ (r' / B - 1) ≤ (B + r' % B) * 2 ^ (r' / B - 1) := Nat.mul_le_mul_right _ (by omega)
      omega
theorem V_lt {r r' : Nat} : V r < V r' ↔ r < r' := by
  constructor
  · intro h
    rcases Nat.lt_trichotomy r r' with h1 | h1 | h1
    · exact h1
    · subst h1; omega
    · have := V_mono h1; omega
  · exact V_mono
theorem V_eq {r r' : Nat} : V r = V r' ↔ r = r' := by
  constructor
  · intro h
    rcases Nat.lt_trichotomy r r' with h1 | h1 | h1
    · have := V_mono h1; omega
    · exact h1
    · have := V_mono h1; omega
  · rintro rfl; rfl

theorem read_number {b : Nat} (h : rung b < I) : double.read b = .number (neg b) (mag (rung b)) (double.leastPlace + (up (rung b) : Int)) := by
  unfold Format.read
  rw [sw, bn, ir]
  show (if rung b < B then _ else if rung b < I then _ else _) = _
  unfold mag up
  by_cases h1 : rung b < B
  · rw [if_pos h1, if_pos h1, if_pos h1]
    simp [neg, rung]
  · rw [if_neg h1, if_pos h, if_neg h1, if_neg h1]
    rfl
theorem I_ge : B ≤ I := by decide
theorem read_inf {b : Nat} (h : rung b = I) : double.read b = .infinity (neg b) := by
  have := I_ge
  unfold Format.read
  rw [sw, bn, ir]
  show (if rung b < B then _ else if rung b < I then _ else if rung b = I then _ else _) = _
  rw [if_neg (by omega), if_neg (by omega), if_pos h]
  rfl
theorem read_nan {b : Nat} (h : I < rung b) : double.read b = .nan (neg b) (rung b - I) := by
  have := I_ge
  unfold Format.read
  rw [sw, bn, ir]
  show (if rung b < B then _ else if rung b < I then _ else if rung b = I then _ else _) = _
  rw [if_neg (by omega), if_neg (by omega), if_neg (by omega)]
  rfl

theorem cmp_congr {x y u v : Int} (h1 : x < y ↔ u < v) (h2 : x = y ↔ u = v) : compare x y = compare u v := by
  show compareOfLessAndEq x y = compareOfLessAndEq u v
  unfold compareOfLessAndEq
  by_cases a : x < y
  · rw [if_pos a, if_pos (h1.1 a)]
  · rw [if_neg a, if_neg (fun h => a (h1.2 h))]
    by_cases b : x = y
    · rw [if_pos b, if_pos (h2.1 b)]
    · rw [if_neg b, if_neg (fun h => b (h2.2 h))]

theorem signed_mul (s : Bool) (m a c : Nat) : signed s m (a + c) = signed s m a * (2 ^ c : Nat) := by
  unfold signed
  rw [Nat.shiftLeft_eq, Nat.shiftLeft_eq, Nat.pow_add, ← Nat.mul_assoc]
  cases s
  · simp
  · simp [Int.neg_mul]
theorem signed_V (s : Bool) (r : Nat) : signed s (mag r) (up r) = if s = true then -(V r : Int) else (V r : Int) := by
  unfold signed
  rw [Nat.shiftLeft_eq, V_is]

theorem order_numbers {a b : Nat} (ha : rung a < I) (hb : rung b < I) : double.order a b = some (compare (key a) (key b)) := by
  unfold Format.order
  rw [read_number ha, read_number hb]
  show some (compare _ _) = _
  congr 1
  generalize hL : double.leastPlace = L
  have hmin : min (L + (up (rung a) : Int)) (L + (up (rung b) : Int)) = L + ((min (up (rung a)) (up (rung b)) : Nat) : Int) := by omega
  rw [hmin]
  have e1 : (L + (up (rung a) : Int) - (L + ((min (up (rung a)) (up (rung b)) : Nat) : Int))).toNat = up (rung a) - min (up (rung a)) (up (rung b)) := by omega
  have e2 : (L + (up (rung b) : Int) - (L + ((min (up (rung a)) (up (rung b)) : Nat) : Int))).toNat = up (rung b) - min (up (rung a)) (up (rung b)) := by omega
  rw [e1, e2]
  generalize hc : min (up (rung a)) (up (rung b)) = c
  have p1 := signed_mul (neg a) (mag (rung a)) (up (rung a) - c) c
  have p2 := signed_mul (neg b) (mag (rung b)) (up (rung b) - c) c
  rw [show up (rung a) - c + c = up (rung a) by omega, signed_V] at p1
  rw [show up (rung b) - c + c = up (rung b) by omega, signed_V] at p2
  have hpos : (0 : Int) < ((2 ^ c : Nat) : Int) := by exact_mod_cast Nat.two_pow_pos c
  have k1 : (if neg a = true then -(V (rung a) : Int) else (V (rung a) : Int)) < (if neg b = true then -(V (rung b) : Int) else (V (rung b) : Int)) ↔ key a < key b := by
    have v1 := @V_lt (rung a) (rung b)
    have v2 := @V_lt (rung b) (rung a)
    have v0 : ∀ r, V r = 0 ↔ r = 0 := fun r => by
      have := @V_eq r 0
      rw [show V 0 = 0 from rfl] at this
      exact this
    have z1 := v0 (rung a)
    have z2 := v0 (rung b)
    unfold key
    cases neg a <;> cases neg b <;> simp <;> omega
  have k2 : (if neg a = true then -(V (rung a) : Int) else (V (rung a) : Int)) = (if neg b = true then -(V (rung b) : Int) else (V (rung b) : Int)) ↔ key a = key b := by
    have v1 := @V_eq (rung a) (rung b)
    have v0 : ∀ r, V r = 0 ↔ r = 0 := fun r => by
      have := @V_eq r 0
      rw [show V 0 = 0 from rfl] at this
      exact this
    have z1 := v0 (rung a)
    have z2 := v0 (rung b)
    unfold key
    cases neg a <;> cases neg b <;> simp <;> omega
  refine cmp_congr ?_ ?_
  · rw [← k1, p1, p2]
    exact (Int.mul_lt_mul_right hpos).symm
  · rw [← k2, p1, p2]
    constructor
    · intro h; rw [h]
    · exact fun h => Int.eq_of_mul_eq_mul_right (by omega) h

theorem cmp_lt {u v : Int} (h : u < v) : compare u v = .lt := by
  show compareOfLessAndEq u v = _
  unfold compareOfLessAndEq
  rw [if_pos h]
theorem cmp_eq {u v : Int} (h : u = v) : compare u v = .eq := by
  show compareOfLessAndEq u v = _
  unfold compareOfLessAndEq
  rw [if_neg (by omega), if_pos h]
theorem cmp_gt {u v : Int} (h : v < u) : compare u v = .gt := by
  show compareOfLessAndEq u v = _
  unfold compareOfLessAndEq
  rw [if_neg (by omega), if_neg (by omega)]

/-- HOW TWO NUMBERS STAND TO EACH OTHER: as their keys. -/
theorem order_is {a b : Nat} (ha : nan a = false) (hb : nan b = false) : double.order a b = some (compare (key a) (key b)) := by
  have hI : 0 < I := by decide
  simp only [nan, decide_eq_false_iff_not] at ha hb
  by_cases h1 : rung a = I <;> by_cases h2 : rung b = I
  · have ka : key a = if neg a = true then -(I : Int) else (I : Int) := by unfold key; rw [h1]
    have kb : key b = if neg b = true then -(I : Int) else (I : Int) := by unfold key; rw [h2]
    unfold Format.order
    rw [read_inf h1, read_inf h2, ka, kb]
    cases neg a <;> cases neg b <;> (show some _ = some _) <;> congr 1
  · have ka : key a = if neg a = true then -(I : Int) else (I : Int) := by unfold key; rw [h1]
    have kb : -(I : Int) < key b ∧ key b < (I : Int) := by unfold key; split <;> omega
    unfold Format.order
    rw [read_inf h1, read_number (by omega)]
    show some _ = some _
    congr 1
    rw [ka]
    cases neg a
    · exact (cmp_gt (by simpa using kb.2)).symm
    · exact (cmp_lt (by simpa using kb.1)).symm
  · have kb : key b = if neg b = true then -(I : Int) else (I : Int) := by unfold key; rw [h2]
    have ka : -(I : Int) < key a ∧ key a < (I : Int) := by unfold key; split <;> omega
    unfold Format.order
    rw [read_inf h2, read_number (by omega)]
    show some _ = some _
    congr 1
    rw [kb]
    cases neg b
    · exact (cmp_lt (by simpa using ka.2)).symm
    · exact (cmp_gt (by simpa using ka.1)).symm
  · exact order_numbers (by omega) (by omega)

theorem order_nan_left {a : Nat} (b : Nat) (h : nan a = true) : double.order a b = none := by
  simp only [nan, decide_eq_true_eq] at h
  unfold Format.order
  rw [read_nan h]
  rfl
theorem order_nan_right (a : Nat) {b : Nat} (h : nan b = true) : double.order a b = none := by
  simp only [nan, decide_eq_true_eq] at h
  unfold Format.order
  rw [read_nan h]
  cases double.read a <;> rfl
end Fl
end Go.Proofs.Ytgfokkkkkeaheaa
