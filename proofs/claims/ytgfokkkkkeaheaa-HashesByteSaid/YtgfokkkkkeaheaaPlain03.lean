/- Plain laws of the hashes (no Go in sight): the state, the mixing, what is injective, the step. -/
import Derived.WalkKit
namespace Go.Proofs.Ytgfokkkkkeaheaa
namespace Hs
open Go.RowKit

/-- a byte goes into a state -/
def put (h : BitVec 64) (b : UInt8) : BitVec 64 := (h ^^^ BitVec.ofNat 64 b.toNat) * 1099511628211#64
def turn (h : BitVec 64) : BitVec 64 := (h ^^^ (h >>> 32)) * 11400714819323198485#64
/-- a state, mixed -/
def mix (h : BitVec 64) : BitVec 64 := turn h ^^^ (turn h >>> 29)
def run (h : BitVec 64) (l : List UInt8) : BitVec 64 := l.foldl put h
def basis : BitVec 64 := 14695981039346656037#64
def hash (seed : BitVec 64) (l : List UInt8) : BitVec 64 := if seed = 0#64 then 7#64 else mix (run (basis ^^^ seed) l)
def step (h : BitVec 64) : BitVec 64 := ((h <<< 47) ||| (h >>> 17)) ||| 1#64

theorem run_snoc (h : BitVec 64) (l : List UInt8) (b : UInt8) : run h (l ++ [b]) = put (run h l) b := by
  simp [run]
theorem run_append (h : BitVec 64) (l m : List UInt8) : run h (l ++ m) = run (run h l) m := by
  simp [run]
theorem run_cons (h : BitVec 64) (b : UInt8) (m : List UInt8) : run h (b :: m) = run (put h b) m := rfl

/-! what is injective -/
theorem xor_right_inj (a b c : BitVec 64) (h : a ^^^ c = b ^^^ c) : a = b := by
  have := congrArg (· ^^^ c) h
  simpa [BitVec.xor_assoc] using this
theorem xor_left_inj (a b c : BitVec 64) (h : c ^^^ a = c ^^^ b) : a = b := by
  rw [BitVec.xor_comm c a, BitVec.xor_comm c b] at h
  exact xor_right_inj a b c h

theorem mul_prime_inj (a b : BitVec 64) (h : a * 1099511628211#64 = b * 1099511628211#64) : a = b := by
  have e : 1099511628211#64 * 14886173955864302971#64 = 1#64 := by decide
  have := congrArg (· * 14886173955864302971#64) h
  simp only [BitVec.mul_assoc, e, BitVec.mul_one] at this
  exact this
theorem mul_turn_inj (a b : BitVec 64) (h : a * 11400714819323198485#64 = b * 11400714819323198485#64) : a = b := by
  have e : 11400714819323198485#64 * 17428512612931826493#64 = 1#64 := by decide
  have := congrArg (· * 17428512612931826493#64) h
  simp only [BitVec.mul_assoc, e, BitVec.mul_one] at this
  exact this

/-- a bit of what is put against itself moved down -/
theorem shift_inj (a b : BitVec 64) (k : Nat) (hk : 0 < k) (h : a ^^^ (a >>> k) = b ^^^ (b >>> k)) : a = b := by
  have bit : ∀ n i, 64 ≤ i + n → a.getLsbD i = b.getLsbD i := by
    intro n
    induction n with
    | zero =>
      intro i hi
      rw [BitVec.getLsbD_of_ge _ _ (by omega), BitVec.getLsbD_of_ge _ _ (by omega)]
    | succ n ih =>
      intro i hi
      have e := congrArg (fun x => x.getLsbD i) h
      simp only [BitVec.getLsbD_xor, BitVec.getLsbD_ushiftRight] at e
      rw [ih (k + i) (by omega)] at e
      cases ha : a.getLsbD i <;> cases hb : b.getLsbD i <;> cases hc : b.getLsbD (k + i) <;> simp_all
  exact BitVec.eq_of_getLsbD_eq fun i _ => bit 64 i (by omega)

theorem mix_inj (a b : BitVec 64) (h : mix a = mix b) : a = b :=
  shift_inj a b 32 (by omega) (mul_turn_inj _ _ (shift_inj _ _ 29 (by omega) h))

theorem put_inj (a b : BitVec 64) (c : UInt8) (h : put a c = put b c) : a = b :=
  xor_right_inj _ _ _ (mul_prime_inj _ _ h)
theorem byte_inj (c d : UInt8) (h : BitVec.ofNat 64 c.toNat = BitVec.ofNat 64 d.toNat) : c = d := by
  have := congrArg BitVec.toNat h
  simp only [BitVec.toNat_ofNat] at this
  have hc := c.toNat_lt
  have hd := d.toNat_lt
  exact UInt8.toNat_inj.1 (by omega)
theorem put_byte_inj (a : BitVec 64) (c d : UInt8) (h : put a c = put a d) : c = d :=
  byte_inj c d (xor_left_inj _ _ _ (mul_prime_inj _ _ h))
theorem run_inj (a b : BitVec 64) (l : List UInt8) (h : run a l = run b l) : a = b := by
  induction l generalizing a b with
  | nil => exact h
  | cons c l ih => exact put_inj _ _ c (ih _ _ h)

/-- SEEDS: unlike ones, unlike hashes. -/
theorem hash_seed (a b : BitVec 64) (l : List UInt8) (ha : a ≠ 0#64) (hb : b ≠ 0#64) (h : hash a l = hash b l) : a = b := by
  unfold hash at h
  rw [if_neg ha, if_neg hb] at h
  exact xor_left_inj _ _ _ (run_inj _ _ l (mix_inj _ _ h))

/-- ONE BYTE: unlike bytes at one place, unlike hashes. -/
theorem hash_byte (s : BitVec 64) (l m : List UInt8) (c d : UInt8) (hs : s ≠ 0#64) (h : hash s (l ++ c :: m) = hash s (l ++ d :: m)) : c = d := by
  unfold hash at h
  rw [if_neg hs, if_neg hs] at h
  have h1 := mix_inj _ _ h
  rw [run_append, run_append, run_cons, run_cons] at h1
  exact put_byte_inj _ c d (run_inj _ _ m h1)

/-! the step -/
theorem step_bit (h : BitVec 64) (i : Nat) (hi : i < 64) :
    (step h).getLsbD i = (i == 0 || if i < 47 then h.getLsbD (17 + i) else h.getLsbD (i - 47)) := by
  unfold step
  simp only [BitVec.getLsbD_or, BitVec.getLsbD_shiftLeft, BitVec.getLsbD_ushiftRight, BitVec.getLsbD_one]
  by_cases h0 : i = 0
  · subst h0; simp
  · by_cases h1 : i < 47
    · simp [h0, h1]
    · have : h.getLsbD (17 + i) = false := BitVec.getLsbD_of_ge _ _ (by omega)
      simp [h0, h1, hi, this]

theorem step_odd (h : BitVec 64) : (step h).getLsbD 0 = true := by
  rw [step_bit h 0 (by omega)]; simp

theorem one_bit (b i : Nat) (hb : b < 64) : (1#64 <<< b).getLsbD i = decide (i = b) := by
  simp only [BitVec.getLsbD_shiftLeft, BitVec.getLsbD_one]
  by_cases h : i = b
  · subst h; simp [hb]
  · by_cases h2 : i < b
    · simp [h, h2]
    · have : ¬ (i - b = 0) := by omega
      simp [h, this]

theorem step_turned (h : BitVec 64) (b : Nat) (hb : b < 64) : step h = step (h ^^^ (1#64 <<< b)) ↔ b = 17 := by
  constructor
  · intro e
    false_or_by_contra
    rename_i hn
    by_cases h17 : b < 17
    · have := congrArg (fun x => x.getLsbD (b + 47)) e
      simp only [step_bit _ (b + 47) (by omega)] at this
      rw [if_neg (by omega), if_neg (by omega), BitVec.getLsbD_xor, one_bit _ _ hb] at this
      simp at this
    · have := congrArg (fun x => x.getLsbD (b - 17)) e
      simp only [step_bit _ (b - 17) (by omega)] at this
      have h0 : (b - 17 == 0) = false := by simp; omega
      rw [if_pos (by omega), if_pos (by omega), BitVec.getLsbD_xor, one_bit _ _ hb, h0, show 17 + (b - 17) = b by omega] at this
      simp at this
  · rintro rfl
    refine BitVec.eq_of_getLsbD_eq fun i hi => ?_
    rw [step_bit _ i hi, step_bit _ i hi, BitVec.getLsbD_xor, BitVec.getLsbD_xor, one_bit _ _ hb, one_bit _ _ hb]
    by_cases h0 : i = 0
    · subst h0; simp
    · have h2 : i < 47 ∨ ¬ (i - 47 = 17) := by omega
      rcases h2 with h2 | h2
      · simp [h0, h2]
      · by_cases h3 : i < 47
        · simp [h0, h3]
        · simp [h2, h3]

/-! numbers -/
theorem u_lt (h : BitVec 64) : (0 : Int) ≤ (h.toNat : Int) ∧ (h.toNat : Int) < 18446744073709551616 := by
  have := h.isLt
  omega
theorem of_u (n : Int) (h0 : 0 ≤ n) (h1 : n < 18446744073709551616) : ∃ h : BitVec 64, n = (h.toNat : Int) :=
  ⟨BitVec.ofNat 64 n.toNat, by simp only [BitVec.toNat_ofNat]; omega⟩

theorem bx (a b : BitVec 64) : bits .xor .u64 (a.toNat : Int) (b.toNat : Int) = ((a ^^^ b).toNat : Int) := by
  rw [bits_xor_u64_nat _ _ a.isLt b.isLt, BitVec.toNat_xor]
theorem bo (a b : BitVec 64) : bits .or .u64 (a.toNat : Int) (b.toNat : Int) = ((a ||| b).toNat : Int) := by
  rw [bits_or_u64_nat _ _ a.isLt b.isLt, BitVec.toNat_or]
theorem bm (a c : BitVec 64) : IntKind.u64.wrap ((a.toNat : Int) * (c.toNat : Int)) = ((a * c).toNat : Int) := by
  rw [IntKind.wrap_u64, BitVec.toNat_mul]
  simp
theorem bd (a : BitVec 64) (k : Nat) : (a.toNat : Int) / ((2 ^ k : Nat) : Int) = ((a >>> k).toNat : Int) := by
  rw [BitVec.toNat_ushiftRight, Nat.shiftRight_eq_div_pow]
  simp
theorem bl (a : BitVec 64) (k : Nat) : IntKind.u64.wrap ((a.toNat : Int) * ((2 ^ k : Nat) : Int)) = ((a <<< k).toNat : Int) := by
  rw [IntKind.wrap_u64, BitVec.toNat_shiftLeft, Nat.shiftLeft_eq]
  simp

/-- the step by arithmetic -/
def stepN (n : Nat) : Nat := n / 131072 + n % 131072 * 140737488355328 + 1 - (n / 131072 + n % 131072 * 140737488355328) % 2

theorem or_one (n : Nat) : n ||| 1 = n + 1 - n % 2 := by
  have h := Nat.two_pow_add_eq_or_of_lt (i := 1) (b := 1) (by omega) (n / 2)
  have h2 : n ||| 1 = 2 * (n / 2) ||| 1 := by
    refine Nat.eq_of_testBit_eq fun i => ?_
    rw [Nat.testBit_or, Nat.testBit_or]
    cases i with
    | zero => simp
    | succ i => simp [Nat.testBit_succ]
  rw [h2]
  simp only [Nat.pow_one] at h
  omega

theorem step_nat (h : BitVec 64) : (step h).toNat = stepN h.toNat := by
  have hl := h.isLt
  unfold step stepN
  rw [BitVec.toNat_or, BitVec.toNat_or, BitVec.toNat_shiftLeft, BitVec.toNat_ushiftRight, Nat.shiftLeft_eq, Nat.shiftRight_eq_div_pow]
  have e : h.toNat * 2 ^ 47 % 2 ^ 64 = 2 ^ 47 * (h.toNat % 131072) := by omega
  rw [e, ← Nat.two_pow_add_eq_or_of_lt (i := 47) (by omega) (h.toNat % 131072), show (1#64).toNat = 1 from rfl, or_one]
  omega

end Hs
end Go.Proofs.Ytgfokkkkkeaheaa
