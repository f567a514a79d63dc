/- The walks of the rates. -/
import Derived.Test.YtgfokkkkkeaheaaRows
import Derived.Test.YtgfokkkkkeaheaaPlainF
import Derived.Test.YtgfokkkkkeaheaaMem
import Derived.WalkKit
import Derived.WalkMore
import Derived.WalkLawsBesides
import Derived.Handy
import Derived.Lib.Hide
namespace Go.Proofs.Ytgfokkkkkeaheaa
namespace Rt
open Go.RowKit Fl

/-- one half, k times with itself -/
def hb (k : Nat) : Nat := 4607182418800017408 - k * 4503599627370496
/-- two, k times with itself -/
def hp (k : Nat) : Nat := 4607182418800017408 + k * 4503599627370496
theorem hb_div : ∀ k, k < 17 → floatBits .quo .f64 (hb k) 4611686018427387904 = some (hb (k + 1)) := by decide +kernel
theorem hp_mul : ∀ k, k < 17 → floatBits .mul .f64 (hp k) 4611686018427387904 = some (hp (k + 1)) := by decide +kernel
theorem hp_div : ∀ k, k < 17 → floatBits .quo .f64 4607182418800017408 (hp k) = some (hb k) := by decide +kernel

/-- is a number not above another one? -/
def leB (a b : Nat) : Bool := Ieee.double.order a b == some .lt || Ieee.double.order a b == some .eq
/-- behind k halves that are all above x: how many -/
def pr (x : Nat) : Nat → Nat → Nat
  | k, 0 => k
  | k, n + 1 => if leB (hb (k + 1)) x = true then k + 1 else pr x (k + 1) n
def prob (x : Nat) : Nat := if nan x = true then 4 else pr x 0 16
theorem pr_bound (x k n : Nat) : k ≤ pr x k n ∧ pr x k n ≤ k + n := by
  induction n generalizing k with
  | zero => simp [pr]
  | succ n ih =>
    unfold pr
    split
    · omega
    · have := ih (k + 1); omega

theorem neq_self (x : Nat) : (Ieee.double.order x x != some .eq) = nan x := by
  cases h : nan x with
  | true => rw [order_nan_left x h]; rfl
  | false => rw [order_is h h, cmp_eq rfl]; rfl

theorem isnan_any (x : Nat) (w : World) : Calls Try.prog 39 #[.float .f64 x] w fun e w' => e = .returned (.bool (nan x)) ∧ w = w' := by
  have h : (FloatKind.f64.format.order x x != some .eq) = nan x := neq_self x
  have H := Lib.hid h
  go_enter Try.func39, Try.ntmps39
  go_wp2
  go_ret
  exact ⟨by rw [← H.out]; rfl, rfl⟩
theorem frombits (x : Int) (w : World) : (callFunc 29 #[.int .u64 x]).run Try.prog w = .ok (.value (.float .f64 x.toNat)) w := by
  rw [run_callFunc_extern Try.func29 (by kernel_rfl) (by kernel_rfl) (by kernel_rfl) (e := Extern.MathFloatBits.float64frombits) (by kernel_rfl)]
  rfl

theorem le_yes {a b : Nat} (h : (FloatKind.f64.format.order a b == some Ordering.lt) = true ∨ (FloatKind.f64.format.order a b == some Ordering.eq) = true) : leB a b = true := by
  have h' : (Ieee.double.order a b == some Ordering.lt) = true ∨ (Ieee.double.order a b == some Ordering.eq) = true := h
  unfold leB
  rcases h' with h | h <;> simp [h]
theorem le_no {a b : Nat} (h : (FloatKind.f64.format.order a b == some Ordering.lt) = false ∧ (FloatKind.f64.format.order a b == some Ordering.eq) = false) : leB a b = false := by
  have h' : (Ieee.double.order a b == some Ordering.lt) = false ∧ (Ieee.double.order a b == some Ordering.eq) = false := h
  unfold leB
  rw [h'.1, h'.2]
  rfl
theorem pr_step (x k n : Nat) : pr x k (n + 1) = if leB (hb (k + 1)) x = true then k + 1 else pr x (k + 1) n := rfl
theorem probes_any (x : Nat) (w : World) : Calls Try.prog 30 #[.float .f64 x] w fun e w' => e = .returned (.int .i64 (prob x : Int)) ∧ w = w' := by
  cases hn : nan x with
  | true =>
    go_enter Try.func30, Try.ntmps30
    go_wp2_with fail
    go_step3
    go_wp2_with (go_at_call 39; refine (isnan_any _ _).mono ?_; rintro e w' ⟨rfl, rfl⟩)
    rw [Exit.noGoto_ret]
    go_ret
    exact ⟨by unfold prob; rw [hn]; rfl, rfl⟩
  | false =>
    go_enter Try.func30, Try.ntmps30
    go_wp2_with fail
    go_step3
    go_wp2_with (go_at_call 39; refine (isnan_any _ _).mono ?_; rintro e w' ⟨rfl, rfl⟩)
    go_step3
    go_wp2_with fail
    go_loop [3, 4] (fun h i => ∃ k : Nat, k ≤ 16 ∧ i = .int .i64 k ∧ h = .float .f64 (hb k) ∧ pr x k (16 - k) = pr x 0 16) (fun _ i => 16 - (intOf i).toNat)
    case atStart => exact ⟨0, by omega, rfl, rfl, rfl⟩
    case round =>
      obtain ⟨k, hk, rfl, rfl, hpr⟩ := hrel
      by_cases hlt : k < 16
      · have hd := hb_div k (by omega)
        have hrun : ∀ w, (binOp .quo 48 (.float .f64 (hb k)) (.float .f64 4611686018427387904)).run Try.prog w = .ok (.float .f64 (hb (k + 1))) w := fun w => run_float_arith w .quo 48 .f64 _ _ _ hd
        have hst := pr_step x k (16 - k - 1)
        rw [show 16 - k - 1 + 1 = 16 - k by omega, hpr] at hst
        generalize hh : hb (k + 1) = H at hrun hst
        have HH := Lib.hid hh
        have HST := Lib.hid hst
        clear hd hh hst hpr
        go_wp2_with fail
        · have hle := le_yes (by assumption)
          go_ret
          refine ⟨?_, rfl⟩
          have h := HST.out
          rw [if_pos hle] at h
          unfold prob
          rw [hn, if_neg (by simp), h]
          rfl
        · have hle := le_no (by assumption)
          go_round
          case rel =>
            refine ⟨k + 1, by omega, by go_num, by rw [HH.out], ?_⟩
            have h := HST.out
            rw [if_neg (by simp [hle])] at h
            rw [h, show 16 - (k + 1) = 16 - k - 1 by omega]
          case measure => simp [intOf]; omega
      · obtain rfl : k = 16 := by omega
        have HPR := Lib.hid hpr
        clear hpr
        go_wp2_with fail
        go_ret
        refine ⟨?_, rfl⟩
        unfold prob
        rw [hn, if_neg (by simp), ← HPR.out]
        rfl

theorem ref_probes (x : Nat) (w : World) : Calls Try.prog 31 #[.float .f64 x] w fun e w' => e = .returned (.int .i64 (prob x : Int)) ∧ w = w' := by
  have hs : (FloatKind.f64.format.order x x != some .eq) = nan x := neq_self x
  cases hn : nan x with
  | true =>
    rw [hn] at hs
    go_enter Try.func31, Try.ntmps31
    go_wp2
    go_ret
    exact ⟨by unfold prob; rw [hn]; rfl, rfl⟩
  | false =>
    rw [hn] at hs
    go_enter Try.func31, Try.ntmps31
    go_wp2_with fail
    go_loop [3, 4] (fun h i => ∃ k : Nat, k ≤ 16 ∧ i = .int .i64 ((k + 1 : Nat) : Int) ∧ h = .float .f64 (hp k) ∧ pr x k (16 - k) = pr x 0 16) (fun _ i => 17 - (intOf i).toNat)
    case atStart => exact ⟨0, by omega, rfl, rfl, rfl⟩
    case round =>
      obtain ⟨k, hk, rfl, rfl, hpr⟩ := hrel
      clear hs
      by_cases hlt : k < 16
      · have hm := hp_mul k (by omega)
        have hd := hp_div (k + 1) (by omega)
        have hrun1 : ∀ w, (binOp .mul 48 (.float .f64 (hp k)) (.float .f64 4611686018427387904)).run Try.prog w = .ok (.float .f64 (hp (k + 1))) w := fun w => run_float_arith w .mul 48 .f64 _ _ _ hm
        have hrun2 : ∀ w, (binOp .quo 48 (.float .f64 4607182418800017408) (.float .f64 (hp (k + 1)))).run Try.prog w = .ok (.float .f64 (hb (k + 1))) w := fun w => run_float_arith w .quo 48 .f64 _ _ _ hd
        have hst := pr_step x k (16 - k - 1)
        rw [show 16 - k - 1 + 1 = 16 - k by omega, hpr] at hst
        generalize hh : hb (k + 1) = H at hrun2 hst
        generalize hg : hp (k + 1) = G at hrun1 hrun2
        have HG := Lib.hid hg
        have HST := Lib.hid hst
        clear hm hd hh hg hst hpr
        go_wp2_with fail
        · have hle := le_yes (by assumption)
          go_ret
          refine ⟨?_, rfl⟩
          have h := HST.out
          rw [if_pos hle] at h
          unfold prob
          rw [hn, if_neg (by simp), h]
          rfl
        · have hle := le_no (by assumption)
          go_round
          case rel =>
            refine ⟨k + 1, by omega, by go_num, by rw [HG.out], ?_⟩
            have h := HST.out
            rw [if_neg (by simp [hle])] at h
            rw [h, show 16 - (k + 1) = 16 - k - 1 by omega]
          case measure => simp [intOf]; omega
      · obtain rfl : k = 16 := by omega
        have HPR := Lib.hid hpr
        clear hpr
        go_wp2_with fail
        go_ret
        refine ⟨?_, rfl⟩
        unfold prob
        rw [hn, if_neg (by simp), ← HPR.out]
        rfl
def cl (x lo hi : Int) : Int := min (max x lo) hi
def bitsOf (n k : Int) : Int := cl n 0 10000 * cl k 1 16 * 3 / 2
def pg (n k : Int) : Int := max 1 ((bitsOf n k + 480 - 1) / 480)
theorem mul_in (e p : Int) (h1 : 0 ≤ e ∧ e ≤ 10000) (h2 : 1 ≤ p ∧ p ≤ 16) : 0 ≤ e * p ∧ e * p ≤ 160000 := by
  have a : 0 ≤ e * p := Int.mul_nonneg h1.1 (by omega)
  have b : e * p ≤ 10000 * 16 := Int.mul_le_mul h1.2 h2.2 (by omega) (by omega)
  omega
theorem pages_any (n k : Int) (w : World) (hn : -9223372036854775808 ≤ n ∧ n ≤ 9223372036854775807) (hk : -9223372036854775808 ≤ k ∧ k ≤ 9223372036854775807) :
    Calls Try.prog 32 #[.int .i64 n, .int .i64 k] w fun e w' => e = .returned (.int .i64 (pg n k)) ∧ w = w' := by
  have hb := mul_in (min (max n 0) 10000) (min (max k 1) 16) (by omega) (by omega)
  have e : bitsOf n k = min (max n 0) 10000 * min (max k 1) 16 * 3 / 2 := rfl
  have HE := Lib.hid e
  clear e
  go_enter Try.func32, Try.ntmps32
  go_wp2_with fail
  go_ret
  refine ⟨?_, rfl⟩
  unfold pg
  rw [HE.out]
  rfl
theorem ref_pages (n k : Int) (w : World) (hn : -9223372036854775808 ≤ n ∧ n ≤ 9223372036854775807) (hk : -9223372036854775808 ≤ k ∧ k ≤ 9223372036854775807) :
    Calls Try.prog 33 #[.int .i64 n, .int .i64 k] w fun e w' => e = .returned (.int .i64 (pg n k)) ∧ w = w' := by
  have ht : ∃ e p : Int, (0 ≤ e ∧ e ≤ 10000) ∧ (1 ≤ p ∧ p ≤ 16) ∧ cl n 0 10000 = e ∧ cl k 1 16 = p := ⟨_, _, by unfold cl; omega, by unfold cl; omega, rfl, rfl⟩
  obtain ⟨e, p, he, hp, h1, h2⟩ := ht
  have hm := mul_in e p he hp
  obtain ⟨b, hbb⟩ : ∃ b, bitsOf n k = b := ⟨_, rfl⟩
  have hb3 : b = e * p * 3 / 2 := by rw [← hbb, ← h1, ← h2]; rfl
  have hb1 : b ≤ e * p * 3 / 2 := by omega
  have hb2 : e * p * 3 / 2 ≤ b := by omega
  have hbr : 0 ≤ b ∧ b ≤ 240000 := by omega
  obtain ⟨r, hr⟩ : ∃ r, pg n k = r := ⟨_, rfl⟩
  have hr2 : r = max 1 ((b + 480 - 1) / 480) := by rw [← hr, ← hbb]; rfl
  have HR := Lib.hid hr
  have HR2 := Lib.hid hr2
  clear hbb hb3 hr hr2
  have n3 : (n < 0 ∧ e = 0) ∨ (10000 < n ∧ e = 10000) ∨ (0 ≤ n ∧ n ≤ 10000 ∧ e = n) := by unfold cl at h1; omega
  have k3 : (k < 1 ∧ p = 1) ∨ (16 < k ∧ p = 16) ∨ (1 ≤ k ∧ k ≤ 16 ∧ p = k) := by unfold cl at h2; omega
  clear h1 h2
  obtain ⟨X, hX⟩ : ∃ X, e * p = X := ⟨_, rfl⟩
  rw [hX] at hm hb1 hb2
  rcases n3 with ⟨n1, rfl⟩ | ⟨n1, rfl⟩ | ⟨n1, n2, rfl⟩ <;> rcases k3 with ⟨k1, rfl⟩ | ⟨k1, rfl⟩ | ⟨k1, k2, rfl⟩
  all_goals
    go_enter Try.func33, Try.ntmps33
    go_wp2_with fail
    go_loop [5] (fun g => ∃ q : Nat, 1 ≤ q ∧ q ≤ 501 ∧ g = .int .i64 q ∧ (q = 1 ∨ ((q : Int) - 1) * 480 < b)) (fun g => 502 - (intOf g).toNat)
    case atStart => exact ⟨1, by omega, by omega, rfl, Or.inl rfl⟩
    case round =>
      obtain ⟨q, hq1, hq2, rfl, hq3⟩ := hrel
      by_cases hq : (q : Int) * 480 < b
      · have hq500 : q ≤ 500 := by omega
        clear hq3
        go_wp2_with fail
        all_goals
          go_round
          case rel => exact ⟨q + 1, by omega, by omega, by go_num, Or.inr (by omega)⟩
          case measure => simp [intOf]; omega
      · have HQ := Lib.hid hq3
        clear hq3
        go_wp2_with fail
        go_ret
        refine ⟨?_, rfl⟩
        have hpg : r = (q : Int) := by
          have := HQ.out
          have := HR2.out
          omega
        rw [HR.out, hpg]
        rfl
end Rt
end Go.Proofs.Ytgfokkkkkeaheaa
