import Derived.Test.YtgfokkkkkeaheaaW05b
import Derived.Test.YtgfokkkkkeaheaaOpen
namespace Go.Proofs.Ytgfokkkkkeaheaa.ratesFall
open Go.RowKit Rt Fl
theorem hb_num : ∀ k, k < 18 → nan (hb k) = false := by decide +kernel
theorem leB_is {a b : Nat} (ha : nan a = false) (hb : nan b = false) : leB a b = decide (key a ≤ key b) := by
  unfold leB
  rw [order_is ha hb]
  by_cases h : key a < key b
  · rw [cmp_lt h]
    simp; omega
  · by_cases h2 : key a = key b
    · rw [cmp_eq h2]
      simp; omega
    · rw [cmp_gt (by omega)]
      simp; omega
theorem leB_num {a b : Nat} (h : leB a b = true) : nan a = false ∧ nan b = false := by
  unfold leB at h
  constructor
  · cases ha : nan a with
    | false => rfl
    | true => rw [order_nan_left b ha] at h; simp at h
  · cases hb : nan b with
    | false => rfl
    | true => rw [order_nan_right a hb] at h; simp at h
theorem leB_trans {a b c : Nat} (h1 : leB a b = true) (h2 : leB b c = true) : leB a c = true := by
  obtain ⟨n1, n2⟩ := leB_num h1
  obtain ⟨_, n3⟩ := leB_num h2
  rw [leB_is n1 n2] at h1
  rw [leB_is n2 n3] at h2
  rw [leB_is n1 n3]
  simp at *
  omega
theorem pr_mono (x y : Nat) (h : leB x y = true) (k n : Nat) : pr y k n ≤ pr x k n := by
  induction n generalizing k with
  | zero => simp [pr]
  | succ n ih =>
    have e1 : pr x k (n + 1) = if leB (hb (k + 1)) x = true then k + 1 else pr x (k + 1) n := rfl
    have e2 : pr y k (n + 1) = if leB (hb (k + 1)) y = true then k + 1 else pr y (k + 1) n := rfl
    rw [e1, e2]
    by_cases hx : leB (hb (k + 1)) x = true
    · rw [if_pos hx, if_pos (leB_trans hx h)]; omega
    · rw [if_neg hx]
      split
      · have := pr_bound x (k + 1) n; omega
      · exact ih (k + 1)
theorem prob_mono (x y : Nat) (h : leB x y = true) : prob y ≤ prob x := by
  obtain ⟨n1, n2⟩ := leB_num h
  unfold prob
  rw [n1, n2]
  simp only [Bool.false_eq_true, if_false]
  exact pr_mono x y h 0 16
theorem prob_in (x : Nat) : 1 ≤ prob x ∧ prob x ≤ 16 := by
  unfold prob
  split
  · omega
  · have e : pr x 0 16 = if leB (hb 1) x = true then 1 else pr x 1 15 := rfl
    rw [e]
    split
    · omega
    · have := pr_bound x 1 15; omega
theorem pr_low (x k n : Nat) : (∀ j, k < j → j < pr x k n → leB (hb j) x = false) ∧ (leB (hb (pr x k n)) x = true ∨ pr x k n = k + n) := by
  induction n generalizing k with
  | zero => exact ⟨fun j h1 h2 => by simp [pr] at h2; omega, Or.inr rfl⟩
  | succ n ih =>
    have e1 : pr x k (n + 1) = if leB (hb (k + 1)) x = true then k + 1 else pr x (k + 1) n := rfl
    rw [e1]
    by_cases hx : leB (hb (k + 1)) x = true
    · rw [if_pos hx]
      exact ⟨fun j h1 h2 => by omega, Or.inl hx⟩
    · rw [if_neg hx]
      obtain ⟨i1, i2⟩ := ih (k + 1)
      refine ⟨fun j h1 h2 => ?_, ?_⟩
      · by_cases hj : j = k + 1
        · subst hj; simpa using hx
        · exact i1 j (by omega) h2
      · rcases i2 with i2 | i2
        · exact Or.inl i2
        · exact Or.inr (by omega)
theorem prob_low {x : Nat} (hn : nan x = false) : (∀ j, 0 < j → j < prob x → leB (hb j) x = false) ∧ (leB (hb (prob x)) x = true ∨ prob x = 16) := by
  have h := pr_low x 0 16
  unfold prob
  rw [hn]
  simpa using h

set_option maxHeartbeats 1000000 in
theorem walk (a0 a1 : Int) (_ : (Lit.int .u64 a0).wf = true) (_ : (Lit.int .u64 a1).wf = true) (w : World) :
    Calls Try.prog 13 #[.int .u64 a0, .int .u64 a1] w fun e w' => e = .returned (.bool true) ∧ Below w.heap.size w w' := by
  have hf := frombits_at a0 a0.toNat rfl
  have hg := frombits_at a1 a1.toNat rfl
  generalize a0.toNat = x at hf
  generalize a1.toNat = y at hg
  have m1 := prob_in x
  have n1 := prob_in y
  have mono1 := prob_mono x y
  have mono2 := prob_mono y x
  have hs : (FloatKind.f64.format.order x x != some .eq) = nan x := neq_self x
  have hnan : nan x = true → prob x = 4 := fun h => by unfold prob; rw [h]; rfl
  have hlow := @prob_low x
  obtain ⟨L1, hL1⟩ : ∃ L, leB x y = L := ⟨_, rfl⟩
  obtain ⟨L2, hL2⟩ : ∃ L, leB y x = L := ⟨_, rfl⟩
  have q1 : (FloatKind.f64.format.order x y == some .lt || FloatKind.f64.format.order x y == some .eq) = L1 := hL1
  have q2 : (FloatKind.f64.format.order y x == some .lt || FloatKind.f64.format.order y x == some .eq) = L2 := hL2
  have u1 : L1 = true → nan x = false := fun h => (leB_num (hL1.trans h)).1
  have u2 : L2 = true → nan x = false := fun h => (leB_num (hL2.trans h)).2
  have U1 := Lib.hid u1
  have U2 := Lib.hid u2
  clear u1 u2
  rw [hL1] at mono1
  rw [hL2] at mono2
  have P1 := Lib.hid (probes_any x)
  have P2 := Lib.hid (probes_any y)
  obtain ⟨m, hm⟩ : ∃ m, prob x = m := ⟨_, rfl⟩
  obtain ⟨n, hn⟩ : ∃ n, prob y = n := ⟨_, rfl⟩
  rw [hm] at m1 mono1 mono2 hnan hlow P1
  rw [hn] at n1 mono1 mono2 P2
  clear hm hn hL1 hL2
  have d1 : decide ((m : Int) < 1) = false := decide_eq_false (by omega)
  have d2 : decide ((16 : Int) < (m : Int)) = false := decide_eq_false (by omega)
  have d3 : decide ((n : Int) < 1) = false := decide_eq_false (by omega)
  have d4 : decide ((16 : Int) < (n : Int)) = false := decide_eq_false (by omega)
  have e1 : L1 = true → decide (m < n) = false := fun h => decide_eq_false (by have := mono1 h; omega)
  have e2 : L2 = true → decide (n < m) = false := fun h => decide_eq_false (by have := mono2 h; omega)
  have HL := Lib.hid hlow
  have HNAN := Lib.hid hnan
  clear hlow hnan mono1 mono2
  go_enter Try.func13, Try.ntmps13
  go_wp2_with fail
  refine (P1.out _).mono ?_; rintro e w' ⟨rfl, rfl⟩
  go_wp2_with fail
  refine (P2.out _).mono ?_; rintro e w' ⟨rfl, rfl⟩
  cases hN : nan x with
  | true =>
    have h4 := HNAN.out hN
    subst h4
    rw [hN] at hs
    obtain rfl : L1 = false := by
      cases hc : L1 with
      | false => rfl
      | true => have := U1.out hc; rw [hN] at this; cases this
    obtain rfl : L2 = false := by
      cases hc : L2 with
      | false => rfl
      | true => have := U2.out hc; rw [hN] at this; cases this
    clear e1 e2 U1 U2
    all_goals
      go_wp2_with (go_at_call 34; refine (rated_any _).mono ?_; rintro e w' ⟨rfl, rfl⟩)
      go_ret
      exact ⟨rfl, Below.refl _ _⟩
  | false =>
    have hl := HL.out hN
    rw [hN] at hs
    have HLL := Lib.hid hl
    clear hl HL HNAN hN U1 U2
    cases L1 <;> cases L2
    all_goals
      simp only [true_implies, Bool.false_eq_true, false_implies] at e1 e2
      go_wp2_with fail
      clear e1 e2 q1 q2 d1 d2 d3 d4 hs
      go_loop [9, 10] (fun h i => ∃ k : Nat, 1 ≤ k ∧ k ≤ m ∧ i = .int .i64 k ∧ h = .float .f64 (hb (k - 1))) (fun _ i => m - (intOf i).toNat)
      case atStart => exact ⟨1, by omega, by omega, rfl, rfl⟩
      case round =>
        obtain ⟨k, hk1, hk, rfl, rfl⟩ := hrel
        have hd := hb_div (k - 1) (by omega)
        rw [show k - 1 + 1 = k by omega] at hd
        have hrun : ∀ w, (binOp .quo 48 (.float .f64 (hb (k - 1))) (.float .f64 4611686018427387904)).run Try.prog w = .ok (.float .f64 (hb k)) w := fun w => run_float_arith w .quo 48 .f64 _ _ _ hd
        clear hd
        by_cases hlt : k < m
        · have hle := HLL.out.1 k (by omega) hlt
          have q : (FloatKind.f64.format.order (hb k) x == some .lt || FloatKind.f64.format.order (hb k) x == some .eq) = false := hle
          clear hle
          generalize hH : hb k = H at hrun q
          have HH := Lib.hid hH
          clear hH
          go_wp2_with fail
          go_round
          case rel => exact ⟨k + 1, by omega, by omega, by go_num, by rw [Nat.add_sub_cancel, HH.out]⟩
          case measure => simp [intOf]; omega
        · obtain rfl : k = m := by omega
          obtain ⟨L3, hL3⟩ : ∃ L, leB (hb k) x = L := ⟨_, rfl⟩
          have q : (FloatKind.f64.format.order (hb k) x == some .lt || FloatKind.f64.format.order (hb k) x == some .eq) = L3 := hL3
          have hor := HLL.out.2
          rw [hL3] at hor
          clear hL3
          generalize hb k = H at hrun q
          cases L3 with
          | true =>
            clear hor
            go_wp2_with (go_at_call 34; refine (rated_any _).mono ?_; rintro e w' ⟨rfl, rfl⟩)
            go_ret
            exact ⟨rfl, Below.refl _ _⟩
          | false =>
            have h16 : k = 16 := by simpa using hor
            subst h16
            clear hor
            go_wp2_with (go_at_call 34; refine (rated_any _).mono ?_; rintro e w' ⟨rfl, rfl⟩)
            go_ret
            exact ⟨rfl, Below.refl _ _⟩
end Go.Proofs.Ytgfokkkkkeaheaa.ratesFall
