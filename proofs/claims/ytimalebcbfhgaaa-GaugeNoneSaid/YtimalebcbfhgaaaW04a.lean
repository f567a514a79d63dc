/- The walks of weights: keys, order, classes of one number. -/
import Derived.Test.YtimalebcbfhgaaaRows
import Derived.Test.YtimalebcbfhgaaaPlainR
import Derived.WalkKit
import Derived.WalkMore
import Derived.WalkLawsBesides
import Derived.Handy
import Derived.Laws.BitsAllLaws
import Derived.Laws.Bits64b
import Derived.Lib.Hide
namespace Go.Proofs.Ytimalebcbfhgaaa
namespace Wt
open Go.RowKit Fl
theorem f64bits (x : Nat) (w : World) : (callFunc 22 #[.float .f64 x]).run Try.prog w = .ok (.value (.int .u64 (x : Int))) w := by
  rw [run_callFunc_extern Try.func22 (by kernel_rfl) (by kernel_rfl) (by kernel_rfl) (e := Extern.MathFloatBits.float64bits) (by kernel_rfl)]
  rfl
theorem frombits (x : Int) (w : World) : (callFunc 23 #[.int .u64 x]).run Try.prog w = .ok (.value (.float .f64 x.toNat)) w := by
  rw [run_callFunc_extern Try.func23 (by kernel_rfl) (by kernel_rfl) (by kernel_rfl) (e := Extern.MathFloatBits.float64frombits) (by kernel_rfl)]
  rfl
/-- a number's key, on the bits -/
def wkey (b : Nat) : Nat := if S ≤ b then 2 * S - 1 - b else b + S
def wback (k : Nat) : Nat := if k < S then 2 * S - 1 - k else k - S
theorem and_hi {x : Nat} (hx : x < 2 * S) (h : S ≤ x) : bits .and .u64 (x : Int) 9223372036854775808 = 9223372036854775808 := by
  rw [show (9223372036854775808 : Int) = ((9223372036854775808 : Nat) : Int) from rfl, u64_and_nat x _ hx (by decide), nat_hi64_63]
  unfold S at *
  have : x % 18446744073709551616 / 9223372036854775808 * 9223372036854775808 = 9223372036854775808 := by omega
  rw [this]
theorem and_lo {x : Nat} (hx : x < S) : bits .and .u64 (x : Int) 9223372036854775808 = 0 := by
  rw [show (9223372036854775808 : Int) = ((9223372036854775808 : Nat) : Int) from rfl, u64_and_nat x _ (by unfold S at *; omega) (by decide), nat_hi64_63]
  unfold S at *
  have : x % 18446744073709551616 / 9223372036854775808 * 9223372036854775808 = 0 := by omega
  rw [this]
  rfl
theorem or_lo {x : Nat} (hx : x < S) : bits .or .u64 (x : Int) 9223372036854775808 = ((x + S : Nat) : Int) := by
  rw [show (9223372036854775808 : Int) = ((9223372036854775808 : Nat) : Int) from rfl, u64_or_nat x _ (by unfold S at *; omega) (by decide)]
  rw [Nat.or_comm, nat_join 63 9223372036854775808 x (by decide) (by unfold S at *; omega), Nat.add_comm]
  rfl
theorem nat_not {x : Nat} (hx : x < 2 * S) : 18446744073709551615 ^^^ x = 2 * S - 1 - x := by
  have e : (BitVec.allOnes 64 ^^^ BitVec.ofNat 64 x).toNat = 18446744073709551615 ^^^ x := by
    rw [BitVec.toNat_xor, BitVec.toNat_allOnes, BitVec.toNat_ofNat, Nat.mod_eq_of_lt (by unfold S at hx; omega)]
  rw [← e, BitVec.allOnes_xor, BitVec.toNat_not, BitVec.toNat_ofNat, Nat.mod_eq_of_lt (by unfold S at hx; omega)]
  rfl
theorem not_any {x : Nat} (hx : x < 2 * S) : bits .xor .u64 IntKind.u64.max (x : Int) = ((2 * S - 1 - x : Nat) : Int) := by
  rw [show IntKind.u64.max = ((18446744073709551615 : Nat) : Int) from rfl, u64_xor_nat _ x (by decide) hx, nat_not hx]
theorem andNot_hi {x : Nat} (hx : x < 2 * S) (h : S ≤ x) : bits .andNot .u64 (x : Int) 9223372036854775808 = ((x - S : Nat) : Int) := by
  rw [show (9223372036854775808 : Int) = ((9223372036854775808 : Nat) : Int) from rfl, u64_andNot_nat x _ hx (by decide), nat_mask63]
  have : x % 9223372036854775808 = x - S := by unfold S at *; omega
  rw [this]

def lessB (x y : Nat) : Bool := decide (wkey x < wkey y)
def sameB (x y : Nat) : Bool := decide (x = y)
def infB (s : Bool) (x : Nat) : Bool := decide (rung x = I) && (neg x == s)
def cls (x : Nat) : Nat := if nan x = true then 0 else if infB true x = true then 1 else if infB false x = true then 5 else if decide (key x < 0) = true then 2 else if decide (0 < key x) = true then 4 else 3

theorem key_any (x : Nat) (hx : x < 2 * S) (w : World) : Calls Try.prog 27 #[.float .f64 x] w fun e w' => e = .returned (.int .u64 (wkey x : Int)) ∧ w = w' := by
  have hc := f64bits x
  unfold wkey
  by_cases h : S ≤ x
  · have h1 := and_hi hx h
    have h2 := not_any hx
    rw [if_pos h]
    generalize ((2 * S - 1 - x : Nat) : Int) = y at h2
    clear h hx
    go_enter Try.func27, Try.ntmps27
    go_wp2
    go_ret
    exact ⟨rfl, rfl⟩
  · have h1 := and_lo (x := x) (by omega)
    have h2 := or_lo (x := x) (by omega)
    rw [if_neg h]
    generalize ((x + S : Nat) : Int) = y at h2
    clear h hx
    go_enter Try.func27, Try.ntmps27
    go_wp2
    go_ret
    exact ⟨rfl, rfl⟩
theorem back_any (k : Nat) (hk : k < 2 * S) (w : World) : Calls Try.prog 28 #[.int .u64 (k : Int)] w fun e w' => e = .returned (.float .f64 (wback k)) ∧ w = w' := by
  unfold wback
  by_cases h : k < S
  · have h1 := and_lo h
    have h2 := not_any hk
    rw [if_pos h]
    have hc := frombits ((2 * S - 1 - k : Nat) : Int)
    rw [Int.toNat_natCast] at hc
    generalize 2 * S - 1 - k = y at h2 hc
    clear h hk
    go_enter Try.func28, Try.ntmps28
    go_wp2
    go_ret
    exact ⟨rfl, rfl⟩
  · have h1 := and_hi hk (by omega)
    have h2 := andNot_hi hk (by omega)
    rw [if_neg h]
    have hc := frombits ((k - S : Nat) : Int)
    rw [Int.toNat_natCast] at hc
    generalize k - S = y at h2 hc
    clear h hk
    go_enter Try.func28, Try.ntmps28
    go_wp2
    go_ret
    exact ⟨rfl, rfl⟩
theorem same_any (x y : Nat) (w : World) : Calls Try.prog 26 #[.float .f64 x, .float .f64 y] w fun e w' => e = .returned (.bool (sameB x y)) ∧ w = w' := by
  have h1 := f64bits x
  have h2 := f64bits y
  have h3 : ((x : Int) == (y : Int)) = sameB x y := by
    unfold sameB
    rw [Bool.eq_iff_iff]
    simp only [beq_iff_eq, decide_eq_true_eq]
    omega
  generalize sameB x y = b at h3
  go_enter Try.func26, Try.ntmps26
  go_wp2
  go_ret
  exact ⟨rfl, rfl⟩
theorem less_any (x y : Nat) (hx : x < 2 * S) (hy : y < 2 * S) (w : World) : Calls Try.prog 24 #[.float .f64 x, .float .f64 y] w fun e w' => e = .returned (.bool (lessB x y)) ∧ w = w' := by
  have h1 := Lib.hid (key_any x hx)
  have h2 := Lib.hid (key_any y hy)
  unfold lessB
  generalize wkey x = a at h1
  generalize wkey y = b at h2
  clear hx hy
  go_enter Try.func24, Try.ntmps24
  go_wp2_with fail
  refine (h1.out _).mono ?_; rintro e w' ⟨rfl, rfl⟩
  go_wp2_with fail
  refine (h2.out _).mono ?_; rintro e w' ⟨rfl, rfl⟩
  go_wp2
  go_ret
  exact ⟨by simp, rfl⟩
theorem neq_self (x : Nat) : (Ieee.double.order x x != some .eq) = nan x := by
  cases h : nan x with
  | true => rw [order_nan_left x h]; rfl
  | false => rw [order_is h h, cmp_eq rfl]; rfl
theorem isnan_any (x : Nat) (w : World) : Calls Try.prog 42 #[.float .f64 x] w fun e w' => e = .returned (.bool (nan x)) ∧ w = w' := by
  have h : (FloatKind.f64.format.order x x != some .eq) = nan x := neq_self x
  have H := Lib.hid h
  clear h
  go_enter Try.func42, Try.ntmps42
  go_wp2
  go_ret
  exact ⟨by rw [← H.out]; rfl, rfl⟩
theorem gt_is {x y : Nat} (hx : nan x = false) (hy : nan y = false) : (FloatKind.f64.format.order x y == some .gt) = decide (key y < key x) := by
  show (Ieee.double.order x y == some .gt) = _
  rw [order_is hx hy]
  by_cases h : key y < key x
  · rw [cmp_gt h]; simpa using h
  · by_cases h2 : key x = key y
    · rw [cmp_eq h2]; simpa using h
    · rw [cmp_lt (by omega)]; simpa using h
theorem lt_is {x y : Nat} (hx : nan x = false) (hy : nan y = false) : (FloatKind.f64.format.order x y == some .lt) = decide (key x < key y) := by
  show (Ieee.double.order x y == some .lt) = _
  rw [order_is hx hy]
  by_cases h : key x < key y
  · rw [cmp_lt h]; simpa using h
  · by_cases h2 : key x = key y
    · rw [cmp_eq h2]; simpa using h
    · rw [cmp_gt (by omega)]; simpa using h
theorem eq_is {x y : Nat} (hx : nan x = false) (hy : nan y = false) : (FloatKind.f64.format.order x y == some .eq) = decide (key x = key y) := by
  show (Ieee.double.order x y == some .eq) = _
  rw [order_is hx hy]
  by_cases h : key x = key y
  · rw [cmp_eq h]; simpa using h
  · by_cases h2 : key x < key y
    · rw [cmp_lt h2]; simpa using h
    · rw [cmp_gt (by omega)]; simpa using h
theorem flip_is {x : Nat} (hx : x < 2 * S) : rung (Op.negFloat .f64 x) = rung x ∧ neg (Op.negFloat .f64 x) = !neg x := by
  have e : Op.negFloat .f64 x = x ^^^ S := rfl
  rw [e]
  have hS : S = 2 ^ 63 := rfl
  by_cases h : S ≤ x
  · have h2 : x ^^^ S = x - S := by
      have h3 : x = S ||| (x - S) := by
        rw [nat_join 63 S (x - S) (by decide) (by unfold S at *; omega)]; omega
      have h4 : x - S < 2 ^ 63 := by unfold S at *; omega
      have h5 : S ^^^ (x - S) = S ||| (x - S) := by
        apply Nat.eq_of_testBit_eq
        intro i
        rw [Nat.testBit_xor, Nat.testBit_or, hS, Nat.testBit_two_pow]
        by_cases hi : 63 = i
        · subst hi
          rw [Nat.testBit_lt_two_pow (by rw [← hS]; exact h4)]; simp
        · simp [hi]
      rw [← h5] at h3
      have h6 : x ^^^ S = (S ^^^ (x - S)) ^^^ S := by rw [← h3]
      rw [h6, Nat.xor_comm, ← Nat.xor_assoc, Nat.xor_self, Nat.zero_xor]
    rw [h2]
    unfold rung neg
    have : 0 < S := by decide
    have a1 : x / S = 1 := by rw [Nat.div_eq_iff this]; omega
    have a2 : (x - S) / S = 0 := Nat.div_eq_of_lt (by omega)
    have a3 : x % S = x - S := by rw [Nat.mod_eq_sub_mod h, Nat.mod_eq_of_lt (by omega)]
    have a4 : (x - S) % S = x - S := Nat.mod_eq_of_lt (by omega)
    rw [a1, a2, a3, a4]
    simp
  · have h2 : x ^^^ S = x + S := by
      have h5 : S ^^^ x = S ||| x := by
        apply Nat.eq_of_testBit_eq
        intro i
        rw [Nat.testBit_xor, Nat.testBit_or, hS, Nat.testBit_two_pow]
        by_cases hi : 63 = i
        · subst hi
          rw [Nat.testBit_lt_two_pow (by rw [← hS]; omega)]; simp
        · simp [hi]
      rw [Nat.xor_comm, h5, nat_join 63 S x (by decide) (by rw [← hS]; omega), Nat.add_comm]
    rw [h2]
    unfold rung neg
    have : 0 < S := by decide
    have a1 : x / S = 0 := Nat.div_eq_of_lt (by omega)
    have a2 : (x + S) / S = 1 := by rw [Nat.add_div_right _ this, a1]
    have a3 : (x + S) % S = x % S := Nat.add_mod_right _ _
    rw [a1, a2, a3]
    simp
theorem inf_is {x : Nat} (hn : nan x = false) : decide (key 9218868437227405311 < key x) = infB false x := by
  have hm : key 9218868437227405311 = 9218868437227405311 := by decide
  rw [hm]
  simp only [nan, decide_eq_false_iff_not] at hn
  have hI : I = 9218868437227405312 := rfl
  unfold infB key
  rw [Bool.eq_iff_iff]
  cases neg x <;> simp <;> omega
theorem infneg_is {x : Nat} (hx : x < 2 * S) (hn : nan x = false) : decide (key 9218868437227405311 < key (Op.negFloat .f64 x)) = infB true x := by
  have h := flip_is hx
  have hn2 : nan (Op.negFloat .f64 x) = false := by unfold nan; rw [h.1]; exact hn
  rw [inf_is hn2]
  unfold infB
  rw [h.1, h.2]
  cases neg x <;> simp
theorem isinf_neg (x : Nat) (hx : x < 2 * S) (hn : nan x = false) (w : World) : Calls Try.prog 43 #[.float .f64 x, .int .i64 (-1)] w fun e w' => e = .returned (.bool (infB true x)) ∧ w = w' := by
  have h : (FloatKind.f64.format.order (Op.negFloat .f64 x) 9218868437227405311 == some .gt) = infB true x := by
    have hn2 : nan (Op.negFloat .f64 x) = false := by unfold nan; rw [(flip_is hx).1]; exact hn
    rw [gt_is hn2 (by decide), infneg_is hx hn]
  generalize infB true x = b at h
  have hrun : ∀ w, (Op.unary .neg (.float .f64 x)).run Try.prog w = .ok (.float .f64 (Op.negFloat .f64 x)) w := fun w => rfl
  generalize Op.negFloat .f64 x = y at h hrun
  clear hx hn
  go_enter Try.func43, Try.ntmps43
  go_wp2
  go_ret
  exact ⟨rfl, rfl⟩
theorem isinf_pos (x : Nat) (hn : nan x = false) (w : World) : Calls Try.prog 43 #[.float .f64 x, .int .i64 1] w fun e w' => e = .returned (.bool (infB false x)) ∧ w = w' := by
  have h : (FloatKind.f64.format.order x 9218868437227405311 == some .gt) = infB false x := by
    rw [gt_is hn (by decide), inf_is hn]
  generalize infB false x = b at h
  clear hn
  go_enter Try.func43, Try.ntmps43
  go_wp2
  go_ret
  exact ⟨rfl, rfl⟩
theorem class_any (x : Nat) (hx : x < 2 * S) (w : World) : Calls Try.prog 25 #[.float .f64 x] w fun e w' => e = .returned (.int .i64 (cls x : Int)) ∧ w = w' := by
  have c1 := Lib.hid (isnan_any x)
  unfold cls
  cases hn : nan x with
  | true =>
    rw [hn] at c1
    go_enter Try.func25, Try.ntmps25
    go_wp2_with fail
    refine (c1.out _).mono ?_; rintro e w' ⟨rfl, rfl⟩
    go_wp2
    go_ret
    exact ⟨rfl, rfl⟩
  | false =>
    rw [hn] at c1
    have c2 := Lib.hid (isinf_neg x hx hn)
    have c3 := Lib.hid (isinf_pos x hn)
    have k0 : key 0 = 0 := rfl
    have l1 := lt_is hn (show nan 0 = false by decide)
    have l2 := gt_is hn (show nan 0 = false by decide)
    rw [k0] at l1 l2
    generalize infB true x = b1 at c2 ⊢
    generalize infB false x = b2 at c3 ⊢
    generalize decide (key x < 0) = b3 at l1 ⊢
    generalize decide (0 < key x) = b4 at l2 ⊢
    clear hx hn k0
    cases b1 <;> cases b2 <;> cases b3 <;> cases b4
    all_goals
      go_enter Try.func25, Try.ntmps25
      go_wp2_with fail
      refine (c1.out _).mono ?_; rintro e w' ⟨rfl, rfl⟩
      go_wp2_with fail
      refine (c2.out _).mono ?_; rintro e w' ⟨rfl, rfl⟩
      go_wp2_with fail
      try (refine (c3.out _).mono ?_; rintro e w' ⟨rfl, rfl⟩)
      go_wp2
      go_ret
      exact ⟨rfl, rfl⟩
end Wt
end Go.Proofs.Ytimalebcbfhgaaa
