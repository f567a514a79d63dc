/- The walks of weights: the ends; the references. -/
import Derived.Test.YtimalebcbfhgaaaW04b
import Derived.Test.YtimalebcbfhgaaaPlainE
namespace Go.Proofs.Ytimalebcbfhgaaa
namespace Wt
open Go.RowKit Fl
def endsV (l : List Nat) : Value := if l.isEmpty = true then .tuple #[.float .f64 0, .float .f64 0, .bool false] else .tuple #[.float .f64 (eLo l), .float .f64 (eHi l), .bool true]

theorem refkey_any (x : Nat) (hx : x < 2 * S) (w : World) : Calls Try.prog 29 #[.float .f64 x] w fun e w' => e = .returned (.int .u64 (wkey x : Int)) ∧ w = w' := by
  have hc := f64bits x
  unfold wkey
  by_cases h : S ≤ x
  · have h1 : decide ((9223372036854775808 : Int) ≤ (x : Int)) = true := decide_eq_true (by unfold S at h; omega)
    have h2 : IntKind.u64.wrap (18446744073709551615 - (x : Int)) = ((2 * S - 1 - x : Nat) : Int) := by
      rw [IntKind.wrap_u64]; unfold S at *; omega
    rw [if_pos h]
    generalize ((2 * S - 1 - x : Nat) : Int) = y at h2
    clear h hx
    go_enter Try.func29, Try.ntmps29
    go_wp2
    go_ret
    exact ⟨by first | rfl | rw [← h2], rfl⟩
  · have h1 : decide ((9223372036854775808 : Int) ≤ (x : Int)) = false := decide_eq_false (by unfold S at h; omega)
    have h2 : IntKind.u64.wrap ((x : Int) + 9223372036854775808) = ((x + S : Nat) : Int) := by
      rw [IntKind.wrap_u64]; unfold S at *; omega
    rw [if_neg h]
    generalize ((x + S : Nat) : Int) = y at h2
    clear h hx
    go_enter Try.func29, Try.ntmps29
    go_wp2
    go_ret
    exact ⟨by first | rfl | rw [← h2], rfl⟩

theorem refback_any (k : Nat) (hk : k < 2 * S) (w : World) : Calls Try.prog 30 #[.int .u64 (k : Int)] w fun e w' => e = .returned (.float .f64 (wback k)) ∧ w = w' := by
  unfold wback
  by_cases h : k < S
  · have h1 : decide ((k : Int) < 9223372036854775808) = true := decide_eq_true (by unfold S at h; omega)
    have h2 : IntKind.u64.wrap (18446744073709551615 - (k : Int)) = ((2 * S - 1 - k : Nat) : Int) := by
      rw [IntKind.wrap_u64]; unfold S at *; omega
    rw [if_pos h]
    have hc := frombits ((2 * S - 1 - k : Nat) : Int)
    rw [Int.toNat_natCast, ← h2] at hc
    generalize 2 * S - 1 - k = y at h2 hc
    clear h hk h2
    go_enter Try.func30, Try.ntmps30
    go_wp2
    go_ret
    exact ⟨rfl, rfl⟩
  · have h1 : decide ((k : Int) < 9223372036854775808) = false := decide_eq_false (by unfold S at h; omega)
    have h2 : IntKind.u64.wrap ((k : Int) - 9223372036854775808) = ((k - S : Nat) : Int) := by
      rw [IntKind.wrap_u64]; unfold S at *; omega
    rw [if_neg h]
    have hc := frombits ((k - S : Nat) : Int)
    rw [Int.toNat_natCast, ← h2] at hc
    generalize k - S = y at h2 hc
    clear h hk h2
    go_enter Try.func30, Try.ntmps30
    go_wp2
    go_ret
    exact ⟨rfl, rfl⟩
theorem refsame_any (x y : Nat) (hx : x < 2 * S) (hy : y < 2 * S) (w : World) : Calls Try.prog 18 #[.float .f64 x, .float .f64 y] w fun e w' => e = .returned (.bool (sameB x y)) ∧ w = w' := by
  have h1 := Lib.hid (refkey_any x hx)
  have h2 := Lib.hid (refkey_any y hy)
  have h3 : ((wkey x : Int) == (wkey y : Int)) = sameB x y := by
    unfold sameB
    rw [Bool.eq_iff_iff]
    simp only [beq_iff_eq, decide_eq_true_eq]
    constructor
    · intro h; exact wkey_inj hx hy (by omega)
    · rintro rfl; rfl
  generalize sameB x y = b at h3
  generalize wkey x = a at h1 h3
  generalize wkey y = c at h2 h3
  clear hx hy
  go_enter Try.func18, Try.ntmps18
  go_wp2_with fail
  refine (h1.out _).mono ?_; rintro e w' ⟨rfl, rfl⟩
  go_wp2_with fail
  refine (h2.out _).mono ?_; rintro e w' ⟨rfl, rfl⟩
  go_wp2
  go_ret
  exact ⟨rfl, rfl⟩
theorem like_any (x y : Nat) (hx : x < 2 * S) (hy : y < 2 * S) (w : World) : Calls Try.prog 19 #[.float .f64 x, .float .f64 y] w fun e w' => e = .returned (.bool (sameB x y || nan x && nan y)) ∧ w = w' := by
  have h1 := Lib.hid (refsame_any x y hx hy)
  have n1 : (FloatKind.f64.format.order x x != some .eq) = nan x := neq_self x
  have n2 : (FloatKind.f64.format.order y y != some .eq) = nan y := neq_self y
  clear hx hy
  cases hb : sameB x y <;> cases hn : nan x <;> cases hm : nan y
  all_goals
    rw [hb] at h1
    rw [hn] at n1
    rw [hm] at n2
    clear hb hn hm
    go_enter Try.func19, Try.ntmps19
    go_wp2_with fail
    refine (h1.out _).mono ?_; rintro e w' ⟨rfl, rfl⟩
    go_wp2
    go_ret
    exact ⟨rfl, rfl⟩
theorem minus_any (w : World) : Calls Try.prog 41 #[] w fun e w' => e = .returned (.float .f64 9223372036854775808) ∧ w = w' := by
  have h : ∀ w, (callFunc 23 #[.int .u64 9223372036854775808]).run Try.prog w = .ok (.value (.float .f64 9223372036854775808)) w := frombits 9223372036854775808
  go_enter Try.func41, Try.ntmps41
  go_wp2
  go_ret
  exact ⟨rfl, rfl⟩
theorem nan_any (w : World) : Calls Try.prog 39 #[] w fun e w' => e = .returned (.float .f64 9221120237041090561) ∧ w = w' := by
  have h : ∀ w, (callFunc 23 #[.int .u64 9221120237041090561]).run Try.prog w = .ok (.value (.float .f64 9221120237041090561)) w := frombits 9221120237041090561
  go_enter Try.func39, Try.ntmps39
  go_wp2
  go_ret
  exact ⟨rfl, rfl⟩
theorem inf_pos (w : World) : Calls Try.prog 44 #[.int .i64 1] w fun e w' => e = .returned (.float .f64 9218868437227405312) ∧ w = w' := by
  have h : ∀ w, (callFunc 23 #[.int .u64 9218868437227405312]).run Try.prog w = .ok (.value (.float .f64 9218868437227405312)) w := frombits 9218868437227405312
  go_enter Try.func44, Try.ntmps44
  go_wp2
  go_ret
  exact ⟨rfl, rfl⟩
theorem inf_neg (w : World) : Calls Try.prog 44 #[.int .i64 (-1)] w fun e w' => e = .returned (.float .f64 18442240474082181120) ∧ w = w' := by
  have h : ∀ w, (callFunc 23 #[.int .u64 18442240474082181120]).run Try.prog w = .ok (.value (.float .f64 18442240474082181120)) w := frombits 18442240474082181120
  go_enter Try.func44, Try.ntmps44
  go_wp2
  go_ret
  exact ⟨rfl, rfl⟩
theorem refclass_any (x : Nat) (hx : x < 2 * S) (w : World) : Calls Try.prog 31 #[.float .f64 x] w fun e w' => e = .returned (.int .i64 (cls x : Int)) ∧ w = w' := by
  have hc := f64bits x
  have hS : S = 9223372036854775808 := rfl
  have hI : I = 9218868437227405312 := rfl
  have hB1 : (decide ((9223372036854775808 : Int) ≤ (x : Int))) = neg x := by
    rw [Bool.eq_iff_iff]
    unfold neg
    simp only [decide_eq_true_eq, beq_iff_eq]
    rw [hS] at hx ⊢
    omega
  have hr0 : ((x : Int) % 9223372036854775808) = (rung x : Int) := by unfold rung; rw [hS]; omega
  have hrb : rung x < 9223372036854775808 := by unfold rung; rw [hS]; omega
  have hcls : cls x = if I < rung x then 0 else if rung x = 0 then 3 else if rung x = I ∧ neg x = true then 1 else if rung x = I then 5 else if neg x = true then 2 else 4 := by
    unfold cls nan infB key
    cases neg x
    · simp only [decide_eq_true_eq, Bool.and_eq_true, beq_iff_eq, Bool.false_eq_true, if_false, and_false, and_true]
      by_cases a1 : I < rung x
      · rw [if_pos a1, if_pos a1]
      · rw [if_neg a1, if_neg a1]
        by_cases a2 : rung x = I
        · rw [if_pos a2, if_neg (by rw [a2, hI]; decide), if_pos a2]
        · rw [if_neg a2, if_neg (by omega)]
          by_cases a3 : rung x = 0
          · rw [if_pos a3, if_neg (by omega)]
          · rw [if_neg a3, if_pos (by omega), if_neg a2]
    · simp only [decide_eq_true_eq, Bool.and_eq_true, beq_iff_eq, if_true, and_true, reduceCtorEq, and_false, if_false]
      by_cases a1 : I < rung x
      · rw [if_pos a1, if_pos a1]
      · rw [if_neg a1, if_neg a1]
        by_cases a2 : rung x = I
        · rw [if_pos a2, if_neg (by rw [a2, hI]; decide), if_pos a2]
        · rw [if_neg a2]
          by_cases a3 : rung x = 0
          · rw [if_pos a3, if_neg (by omega), if_neg (by omega)]
          · rw [if_neg a3, if_pos (by omega), if_neg a2, if_neg a2]
  rw [hcls]
  rw [hI]
  generalize rung x = r at hr0 hrb ⊢
  generalize neg x = s at hB1 ⊢
  by_cases a1 : 9218868437227405312 < r
  · have d1 : decide ((9218868437227405312 : Int) < (r : Int)) = true := decide_eq_true (by omega)
    rw [if_pos a1]
    clear hcls hI hS hrb hx a1
    go_enter Try.func31, Try.ntmps31
    go_wp2
    go_ret
    exact ⟨rfl, rfl⟩
  · have d1 : decide ((9218868437227405312 : Int) < (r : Int)) = false := decide_eq_false (by omega)
    rw [if_neg a1]
    by_cases a3 : r = 0
    · subst a3
      rw [if_pos rfl]
      clear hcls hI hS hrb hx a1
      go_enter Try.func31, Try.ntmps31
      go_wp2
      go_ret
      exact ⟨rfl, rfl⟩
    · have d2 : ((r : Int) == 0) = false := by simpa using a3
      rw [if_neg a3]
      by_cases a2 : r = 9218868437227405312
      · have d3 : ((r : Int) == 9218868437227405312) = true := by rw [beq_iff_eq]; omega
        cases s
        · rw [if_neg (by simp), if_pos a2]
          clear hcls hI hS hrb hx a1 a2 a3
          go_enter Try.func31, Try.ntmps31
          go_wp2
          go_ret
          exact ⟨rfl, rfl⟩
        · rw [if_pos ⟨a2, rfl⟩]
          clear hcls hI hS hrb hx a1 a2 a3
          go_enter Try.func31, Try.ntmps31
          go_wp2
          go_ret
          exact ⟨rfl, rfl⟩
      · have d3 : ((r : Int) == 9218868437227405312) = false := by rw [beq_eq_false_iff_ne]; omega
        rw [if_neg (by simp [a2]), if_neg a2]
        cases s
        · rw [if_neg (by simp)]
          clear hcls hI hS hrb hx a1 a2 a3
          go_enter Try.func31, Try.ntmps31
          go_wp2
          go_ret
          exact ⟨rfl, rfl⟩
        · rw [if_pos rfl]
          clear hcls hI hS hrb hx a1 a2 a3
          go_enter Try.func31, Try.ntmps31
          go_wp2
          go_ret
          exact ⟨rfl, rfl⟩
end Wt
end Go.Proofs.Ytimalebcbfhgaaa
