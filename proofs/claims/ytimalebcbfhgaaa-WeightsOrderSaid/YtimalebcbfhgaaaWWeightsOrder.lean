/- The walk of WeightsOrder. -/
import Derived.Test.YtimalebcbfhgaaaW04f
import Derived.Test.YtimalebcbfhgaaaOpen04
namespace Go.Proofs.Ytimalebcbfhgaaa
open Go.RowKit Fl Wt
namespace weightsOrder
theorem neg_is {x : Nat} (hx : x < 2 * S) : neg x = decide (S ≤ x) := by
  unfold neg
  rw [Bool.eq_iff_iff]
  simp only [beq_iff_eq, decide_eq_true_eq]
  unfold S at *
  omega
theorem rung_is {x : Nat} (hx : x < 2 * S) : rung x = if S ≤ x then x - S else x := by
  unfold rung
  unfold S at *
  split <;> omega
theorem key_is {x : Nat} (hx : x < 2 * S) : key x = if S ≤ x then -((x - S : Nat) : Int) else (x : Int) := by
  unfold key
  rw [neg_is hx, rung_is hx]
  by_cases h : S ≤ x
  · rw [if_pos h, if_pos h]; simp [h]
  · rw [if_neg h, if_neg h]; simp [h]
theorem nan_is {x : Nat} (hx : x < 2 * S) : nan x = decide (I < if S ≤ x then x - S else x) := by
  unfold nan; rw [rung_is hx]
theorem less_float {x y : Nat} (hx : x < 2 * S) (hy : y < 2 * S) (h : ¬ (key x = 0 ∧ key y = 0)) : lessB x y = decide (key x < key y) := by
  rw [key_is hx, key_is hy] at *
  unfold lessB wkey
  rw [Bool.eq_iff_iff]
  simp only [decide_eq_true_eq]
  generalize S = s at *
  by_cases a : s ≤ x <;> by_cases b : s ≤ y <;> (have a' := a; have b' := b; simp only [a, b, if_true, if_false] at h ⊢; omega)
theorem less_noughts {x y : Nat} (hx : x < 2 * S) (hy : y < 2 * S) (h : key x = 0 ∧ key y = 0) : lessB x y = decide (y < x) := by
  rw [key_is hx, key_is hy] at *
  unfold lessB wkey
  rw [Bool.eq_iff_iff]
  simp only [decide_eq_true_eq]
  have hS : 0 < S := by decide
  generalize S = s at *
  by_cases a : s ≤ x <;> by_cases b : s ≤ y <;> (have a' := a; have b' := b; simp only [a, b, if_true, if_false] at h ⊢; omega)
theorem less_nan {x y : Nat} (hx : x < 2 * S) (hy : y < 2 * S) (h1 : nan x = true) (h2 : nan y = false) : lessB x y = decide (S ≤ x) ∧ lessB y x = decide (x < S) := by
  rw [nan_is hx] at h1
  rw [nan_is hy] at h2
  simp only [decide_eq_true_eq, decide_eq_false_iff_not] at h1 h2
  have hIS := I_lt_S
  have key : ∀ (a : Bool), (S ≤ x ↔ a = true) → (wkey x < wkey y ↔ a = true) ∧ (wkey y < wkey x ↔ a = false) := by
    unfold wkey
    generalize S = s at *
    generalize I = i at *
    intro t ht
    by_cases a : s ≤ x
    · have := ht.1 a
      subst this
      rw [if_pos a] at h1
      rw [if_pos a]
      by_cases b : s ≤ y
      · rw [if_pos b] at h2
        rw [if_pos b]
        simp only [iff_true, Bool.true_eq_false, iff_false]
        omega
      · rw [if_neg b] at h2
        rw [if_neg b]
        simp only [iff_true, Bool.true_eq_false, iff_false]
        omega
    · have : t = false := by cases t with
        | false => rfl
        | true => exact absurd (ht.2 rfl) a
      subst this
      rw [if_neg a] at h1
      rw [if_neg a]
      by_cases b : s ≤ y
      · rw [if_pos b] at h2
        rw [if_pos b]
        simp only [iff_true, Bool.false_eq_true, iff_false]
        omega
      · rw [if_neg b] at h2
        rw [if_neg b]
        simp only [iff_true, Bool.false_eq_true, iff_false]
        omega
  obtain ⟨k1, k2⟩ := key (decide (S ≤ x)) (by simp)
  unfold lessB
  simp only [decide_eq_true_eq, decide_eq_false_iff_not] at k1 k2
  refine ⟨Bool.eq_iff_iff.2 ?_, Bool.eq_iff_iff.2 ?_⟩
  · simpa only [decide_eq_true_eq] using k1
  · simp only [decide_eq_true_eq]
    exact k2.trans (by omega)
theorem less_both {x y : Nat} (h1 : lessB x y = true) : lessB y x = false := by
  rw [less_is] at h1
  rw [less_not]
  omega
theorem less_none {x y : Nat} (hx : x < 2 * S) (hy : y < 2 * S) (h1 : lessB x y = false) (h2 : lessB y x = false) : x = y := by
  rw [less_not] at h1 h2
  exact wkey_inj hx hy (by omega)
theorem cls_key {x : Nat} (hn : nan x = false) : cls x = if key x = -(I : Int) then 1 else if key x = (I : Int) then 5 else if key x < 0 then 2 else if 0 < key x then 4 else 3 := by
  unfold cls infB
  rw [hn]
  simp only [nan, decide_eq_false_iff_not] at hn
  have hI : 0 < I := by decide
  unfold key
  cases neg x
  · simp only [Bool.false_eq_true, if_false, decide_eq_true_eq, Bool.and_eq_true, beq_iff_eq, and_false, and_true]
    split <;> (repeat' split) <;> omega
  · simp only [if_true, decide_eq_true_eq, Bool.and_eq_true, beq_iff_eq, reduceCtorEq, and_false, and_true, if_false, Bool.false_eq_true]
    split <;> (repeat' split) <;> omega
theorem cls_mono {x y : Nat} (h1 : nan x = false) (h2 : nan y = false) (h : key x < key y) : cls x ≤ cls y := by
  rw [cls_key h1, cls_key h2]
  simp only [nan, decide_eq_false_iff_not] at h1 h2
  have b1 : -(I : Int) ≤ key x ∧ key x ≤ (I : Int) := by unfold key; split <;> omega
  have b2 : -(I : Int) ≤ key y ∧ key y ≤ (I : Int) := by unfold key; split <;> omega
  have hI : 0 < I := by decide
  generalize key x = p at *
  generalize key y = q at *
  generalize I = i at *
  (repeat' split) <;> omega

set_option maxHeartbeats 4000000 in
theorem walk (a0 a1 : Int) (w0 : (Lit.int .u64 a0).wf = true) (w1 : (Lit.int .u64 a1).wf = true) (w : World) :
    Calls Try.prog 4 #[.int .u64 a0, .int .u64 a1] w fun e w' => e = .returned (.bool true) ∧ Below w.heap.size w w' := by
  obtain ⟨x, rfl, hx⟩ := u64_nat w0
  obtain ⟨y, rfl, hy⟩ := u64_nat w1
  clear w0 w1
  have hf := frombits (x : Int)
  have hg := frombits (y : Int)
  rw [Int.toNat_natCast] at hf hg
  have l0 : lessB x x = false := by rw [less_not]; exact Nat.le_refl _
  have n1 : (FloatKind.f64.format.order x x != some .eq) = nan x := neq_self x
  have n2 : (FloatKind.f64.format.order y y != some .eq) = nan y := neq_self y
  have first : ∃ b1 b2, lessB x y = b1 ∧ lessB y x = b2 ∧ ((b1 = true ∧ b2 = false) ∨ (b1 = false ∧ b2 = true) ∨ (b1 = false ∧ b2 = false ∧ ((x : Int) != (y : Int)) = false)) := by
    refine ⟨_, _, rfl, rfl, ?_⟩
    cases h1 : lessB x y with
    | true => exact Or.inl ⟨rfl, less_both h1⟩
    | false =>
      cases h2 : lessB y x with
      | true => exact Or.inr (Or.inl ⟨rfl, rfl⟩)
      | false =>
        have := less_none hx hy h1 h2
        exact Or.inr (Or.inr ⟨rfl, rfl, by rw [this]; simp⟩)
  obtain ⟨b1, b2, l1, l2, hor⟩ := first
  have hS : (S : Int) = 9223372036854775808 := rfl
  cases hn1 : nan x with
  | true =>
    rw [hn1] at n1
    have hc : ((cls x : Int) == 0) = true := by unfold cls; rw [hn1]; rfl
    cases hn2 : nan y with
    | true =>
      rw [hn2] at n2
      rcases hor with ⟨rfl, rfl⟩ | ⟨rfl, rfl⟩ | ⟨rfl, rfl, hne⟩
      all_goals
        clear hn1 hn2 hS
        go_enter Try.func4, Try.ntmps4
        go_wp2_with (first
          | (go_at_call 24; (with_reducible refine (less_any _ _ (by assumption) (by assumption) _).mono ?_); rintro e w' ⟨rfl, rfl⟩)
          | (go_at_call 25; (with_reducible refine (class_any _ (by assumption) _).mono ?_); rintro e w' ⟨rfl, rfl⟩)
          | (go_at_call 14; refine (weighed_any _).mono ?_; rintro e w' ⟨rfl, hbl⟩))
        go_ret
        exact ⟨rfl, by assumption⟩
    | false =>
      rw [hn2] at n2
      have ht : (b1 == decide ((9223372036854775808 : Int) ≤ (x : Int))) = true := by
        rw [beq_iff_eq, ← l1, (less_nan hx hy hn1 hn2).1]
        rw [Bool.eq_iff_iff]
        simp only [decide_eq_true_eq]
        omega
      rcases hor with ⟨rfl, rfl⟩ | ⟨rfl, rfl⟩ | ⟨rfl, rfl, hne⟩
      all_goals
        clear hn1 hn2 hS
        go_enter Try.func4, Try.ntmps4
        go_wp2_with (first
          | (go_at_call 24; (with_reducible refine (less_any _ _ (by assumption) (by assumption) _).mono ?_); rintro e w' ⟨rfl, rfl⟩)
          | (go_at_call 25; (with_reducible refine (class_any _ (by assumption) _).mono ?_); rintro e w' ⟨rfl, rfl⟩)
          | (go_at_call 14; refine (weighed_any _).mono ?_; rintro e w' ⟨rfl, hbl⟩))
        go_ret
        exact ⟨rfl, by assumption⟩
  | false =>
    rw [hn1] at n1
    cases hn2 : nan y with
    | true =>
      rw [hn2] at n2
      have ht : (b1 == decide ((y : Int) < (9223372036854775808 : Int))) = true := by
        rw [beq_iff_eq, ← l1, (less_nan hy hx hn2 hn1).2]
        rw [Bool.eq_iff_iff]
        simp only [decide_eq_true_eq]
        omega
      rcases hor with ⟨rfl, rfl⟩ | ⟨rfl, rfl⟩ | ⟨rfl, rfl, hne⟩
      all_goals
        clear hn1 hn2 hS
        go_enter Try.func4, Try.ntmps4
        go_wp2_with (first
          | (go_at_call 24; (with_reducible refine (less_any _ _ (by assumption) (by assumption) _).mono ?_); rintro e w' ⟨rfl, rfl⟩)
          | (go_at_call 25; (with_reducible refine (class_any _ (by assumption) _).mono ?_); rintro e w' ⟨rfl, rfl⟩)
          | (go_at_call 14; refine (weighed_any _).mono ?_; rintro e w' ⟨rfl, hbl⟩))
        go_ret
        exact ⟨rfl, by assumption⟩
    | false =>
      rw [hn2] at n2
      have n0 : nan 0 = false := by decide
      have k0 : key 0 = 0 := rfl
      have z1 := eq_is hn1 n0
      have z2 := eq_is hn2 n0
      rw [k0] at z1 z2
      by_cases hz : key x = 0 ∧ key y = 0
      · have ht : (b1 == decide (y < x)) = true := by
          rw [beq_iff_eq, ← l1, less_noughts hx hy hz]
        rw [decide_eq_true hz.1] at z1
        rw [decide_eq_true hz.2] at z2
        rcases hor with ⟨rfl, rfl⟩ | ⟨rfl, rfl⟩ | ⟨rfl, rfl, hne⟩
        all_goals
          clear hn1 hn2 hS n0 k0 hz
          go_enter Try.func4, Try.ntmps4
          go_wp2_with (first
            | (go_at_call 24; (with_reducible refine (less_any _ _ (by assumption) (by assumption) _).mono ?_); rintro e w' ⟨rfl, rfl⟩)
            | (go_at_call 25; (with_reducible refine (class_any _ (by assumption) _).mono ?_); rintro e w' ⟨rfl, rfl⟩)
            | (go_at_call 14; refine (weighed_any _).mono ?_; rintro e w' ⟨rfl, hbl⟩))
          go_ret
          exact ⟨rfl, by assumption⟩
      · have ht : (b1 == (FloatKind.f64.format.order x y == some .lt)) = true := by
          rw [beq_iff_eq, ← l1, less_float hx hy hz, lt_is hn1 hn2]
        have hcl : b1 = true → decide (cls x ≤ cls y) = true := by
          intro h
          rw [decide_eq_true_eq]
          refine cls_mono hn1 hn2 ?_
          rw [h, less_float hx hy hz] at l1
          simpa using l1
        have hcl2 : b1 = false ∨ decide (cls x ≤ cls y) = true := by
          cases b1 with
          | false => exact Or.inl rfl
          | true => exact Or.inr (hcl rfl)
        have hzz : ∃ t1 t2, decide (key x = 0) = t1 ∧ decide (key y = 0) = t2 ∧ (t1 = false ∨ t2 = false) := by
          refine ⟨_, _, rfl, rfl, ?_⟩
          by_cases h : key x = 0
          · exact Or.inr (decide_eq_false fun h2 => hz ⟨h, h2⟩)
          · exact Or.inl (decide_eq_false h)
        obtain ⟨t1, t2, e1, e2, hzz⟩ := hzz
        rw [e1] at z1
        rw [e2] at z2
        clear e1 e2 hz hcl hn1 hn2 hS n0 k0
        rcases hzz with rfl | rfl
        · clear z2
          rcases hor with ⟨rfl, rfl⟩ | ⟨rfl, rfl⟩ | ⟨rfl, rfl, hne⟩
          all_goals
            rcases hcl2 with hcl2 | hcl2
            all_goals first | (cases hcl2; done) | skip
            all_goals
              go_enter Try.func4, Try.ntmps4
              go_wp2_with (first
                | (go_at_call 24; (with_reducible refine (less_any _ _ (by assumption) (by assumption) _).mono ?_); rintro e w' ⟨rfl, rfl⟩)
                | (go_at_call 25; (with_reducible refine (class_any _ (by assumption) _).mono ?_); rintro e w' ⟨rfl, rfl⟩)
                | (go_at_call 14; refine (weighed_any _).mono ?_; rintro e w' ⟨rfl, hbl⟩))
              go_ret
              exact ⟨rfl, by assumption⟩
        · cases t1
          all_goals
            rcases hor with ⟨rfl, rfl⟩ | ⟨rfl, rfl⟩ | ⟨rfl, rfl, hne⟩
            all_goals
              rcases hcl2 with hcl2 | hcl2
              all_goals first | (cases hcl2; done) | skip
              all_goals
                go_enter Try.func4, Try.ntmps4
                go_wp2_with (first
                  | (go_at_call 24; (with_reducible refine (less_any _ _ (by assumption) (by assumption) _).mono ?_); rintro e w' ⟨rfl, rfl⟩)
                  | (go_at_call 25; (with_reducible refine (class_any _ (by assumption) _).mono ?_); rintro e w' ⟨rfl, rfl⟩)
                  | (go_at_call 14; refine (weighed_any _).mono ?_; rintro e w' ⟨rfl, hbl⟩))
                go_ret
                exact ⟨rfl, by assumption⟩
end weightsOrder
end Go.Proofs.Ytimalebcbfhgaaa
