/- Plain laws of float64, on the bits: rounding keeps bounds that the format has; what a sum is. -/
import Derived.Test.YtimalebcbfhgaaaPlainF
namespace Go.Proofs.Ytimalebcbfhgaaa
namespace Fl
open Ieee

/-- what a finite number stands for, in units of the least one -/
def val (b : Nat) : Int := if neg b = true then -(V (rung b) : Int) else (V (rung b) : Int)

theorem word_rung (s : Bool) (r : Nat) (h : r < S) : rung (double.word s r) = r ∧ neg (double.word s r) = s := by
  have hS : 0 < S := by decide
  unfold Format.word
  rw [sw]
  unfold rung neg
  cases s
  · simp [Nat.mod_eq_of_lt h, Nat.div_eq_of_lt h]
  · have h1 : (S + r) % S = r := by rw [Nat.add_mod_left, Nat.mod_eq_of_lt h]
    have h2 : (S + r) / S = 1 := by rw [Nat.add_div_left _ hS, Nat.div_eq_of_lt h]
    simp [h1, h2]

theorem V_step (e k : Nat) (hk : k ≤ 2 * B) (hb : e = 0 ∨ B ≤ k) : V (e * B + k) = k * 2 ^ e := by
  have hB : 0 < B := by decide
  unfold V
  rcases Nat.lt_or_ge k B with h1 | h1
  · obtain rfl : e = 0 := by omega
    rw [if_pos (by omega)]
    simp
  · rw [if_neg (by have := Nat.le_mul_of_pos_left k (Nat.succ_pos e); omega)]
    rcases Nat.lt_or_ge k (2 * B) with h2 | h2
    · have e1 : (e * B + k) % B = k - B := by
        rw [Nat.mul_comm e B, Nat.mul_add_mod]
        rw [Nat.mod_eq_sub_mod h1, Nat.mod_eq_of_lt (by omega)]
      have e2 : (e * B + k) / B = e + 1 := by
        rw [Nat.mul_comm e B, Nat.mul_add_div hB]
        congr 1
        rw [Nat.div_eq_iff hB]
        omega
      rw [e1, e2]
      rw [show B + (k - B) = k by omega, Nat.add_sub_cancel]
    · obtain rfl : k = 2 * B := by omega
      have e1 : (e * B + 2 * B) % B = 0 := by
        rw [← Nat.add_mul, Nat.mul_mod_left]
      have e2 : (e * B + 2 * B) / B = e + 2 := by
        rw [← Nat.add_mul, Nat.mul_div_cancel _ hB]
      rw [e1, e2]
      rw [show e + 2 - 1 = e + 1 by omega, Nat.pow_succ, Nat.add_zero, ← Nat.mul_assoc]
      rw [Nat.mul_comm (B * 2 ^ e) 2, Nat.mul_assoc]

/-- a cut to whole units is not above a whole number that the number is not above; nor below -/
theorem cut_le (s : Bool) (n d q : Nat) (h : n ≤ q * 2 ^ d) : Toward.even.cut s n d ≤ q := by
  unfold Toward.cut
  generalize hg : 1 <<< min d (n.log2 + 2) = gap
  have hgap : gap = 2 ^ min d (n.log2 + 2) := by rw [← hg, Nat.shiftLeft_eq, Nat.one_mul]
  have hpos : 0 < gap := by rw [hgap]; exact Nat.two_pow_pos _
  have dm := Nat.div_add_mod n gap
  have ml := Nat.mod_lt n hpos
  simp only
  rcases Nat.lt_or_ge d (n.log2 + 2) with h1 | h1
  · have hgd : gap = 2 ^ d := by rw [hgap, Nat.min_eq_left (by omega)]
    rw [← hgd] at h
    by_cases h0 : n % gap = 0
    · have hle : n / gap ≤ q := Nat.div_le_of_le_mul (by rw [Nat.mul_comm]; exact h)
      have : (decide (gap < 2 * (n % gap)) || gap == 2 * (n % gap) && n / gap % 2 == 1) = false := by
        rw [h0]
        have : ¬ gap < 0 := by omega
        have : ¬ gap = 0 := by omega
        simp [*]
      rw [this]
      simpa using hle
    · have hlt : n / gap < q := by
        rw [Nat.div_lt_iff_lt_mul hpos]
        rcases Nat.lt_or_ge n (q * gap) with h2 | h2
        · exact h2
        · exfalso
          have : n = q * gap := by omega
          rw [this, Nat.mul_mod_left] at h0
          exact h0 rfl
      have : ∀ b : Bool, b.toNat ≤ 1 := by decide
      have := this (decide (gap < 2 * (n % gap)) || gap == 2 * (n % gap) && n / gap % 2 == 1)
      omega
  · have hgd : gap = 2 ^ (n.log2 + 2) := by rw [hgap, Nat.min_eq_right (by omega)]
    have hn : n < 2 ^ (n.log2 + 1) := Nat.lt_log2_self
    have e2 : gap = 2 * 2 ^ (n.log2 + 1) := by rw [hgd, Nat.pow_succ, Nat.mul_comm]
    have hd : n / gap = 0 := Nat.div_eq_of_lt (by omega)
    have hm : n % gap = n := Nat.mod_eq_of_lt (by omega)
    rw [hd, hm]
    have : (decide (gap < 2 * n) || gap == 2 * n && 0 % 2 == 1) = false := by
      have : ¬ gap < 2 * n := by omega
      simp [this]
    rw [this]
    simp

/-- the rung of the nearest word -/
def near (mag : Nat) (p : Nat) : Nat :=
  if mag = 0 then 0 else
  let e := p + mag.log2 - 52
  min (e * B + Toward.even.cut false (mag <<< (p - e)) (e - p)) I
theorem cut_neg (s : Bool) (n d : Nat) : Toward.even.cut s n d = Toward.even.cut false n d := rfl
theorem fb : double.fractionBits = 52 := rfl
theorem nearest_is (s : Bool) (mag p : Nat) : double.nearest s mag (double.leastPlace + (p : Int)) = double.word s (near mag p) := by
  unfold Format.nearest near
  by_cases h0 : mag = 0
  · rw [if_pos h0, if_pos h0]
  · rw [if_neg h0, if_neg h0]
    rw [bn, ir, fb]
    generalize double.leastPlace = L
    have hl : max (L + (p : Int) + (mag.log2 : Int) - (52 : Nat)) L = L + ((p + mag.log2 - 52 : Nat) : Int) := by omega
    simp only [hl, cut_neg s]
    have e1 : (L + (p : Int) - (L + ((p + mag.log2 - 52 : Nat) : Int))).toNat = p - (p + mag.log2 - 52) := by omega
    have e2 : (L + ((p + mag.log2 - 52 : Nat) : Int) - (L + (p : Int))).toNat = p + mag.log2 - 52 - p := by omega
    have e3 : (L + ((p + mag.log2 - 52 : Nat) : Int) - L).toNat = p + mag.log2 - 52 := by omega
    rw [e1, e2, e3]

theorem I_lt_S : I < S := by decide
theorem near_le_I (mag p : Nat) : near mag p ≤ I := by
  unfold near
  split
  · exact Nat.zero_le _
  · exact Nat.min_le_right _ _

/-- ROUNDING KEEPS BOUNDS: a number that is not above one with few digits is not rounded above it. -/
theorem near_le (mag p q m : Nat) (hq : q ≤ 2 * B) (h : mag * 2 ^ p ≤ q * 2 ^ m) : V (near mag p) ≤ q * 2 ^ m := by
  unfold near
  by_cases h0 : mag = 0
  · rw [if_pos h0]; exact Nat.zero_le _
  · rw [if_neg h0]
    have l1 : 2 ^ mag.log2 ≤ mag := Nat.log2_self_le h0
    have l2 : mag < 2 ^ (mag.log2 + 1) := Nat.lt_log2_self
    generalize mag.log2 = l at *
    simp only
    generalize he : p + l - 52 = e
    have hB : B = 2 ^ 52 := by decide
    -- what is kept
    have key : ∀ k, Toward.even.cut false (mag <<< (p - e)) (e - p) = k → (k ≤ 2 * B ∧ (e = 0 ∨ B ≤ k) ∧ k * 2 ^ e ≤ q * 2 ^ m) := by
      intro k hk
      rcases Nat.lt_or_ge p e with hpe | hpe
      · -- digits are dropped
        have z : p - e = 0 := by omega
        rw [z, Nat.shiftLeft_zero] at hk
        have hl52 : l = 52 + (e - p) := by omega
        have hlow : B * 2 ^ (e - p) ≤ mag := by rw [hB, ← Nat.pow_add, ← hl52]; exact l1
        have hup : mag ≤ (2 * B) * 2 ^ (e - p) := by
          rw [hB, ← Nat.pow_succ', ← Nat.pow_add]
          rw [show 52 + 1 + (e - p) = l + 1 by omega]; omega
        have c1 : k ≤ 2 * B := by rw [← hk]; exact cut_le _ _ _ _ hup
        have c2 : B ≤ k := by
          rw [← hk]
          unfold Toward.cut
          have hgap : 1 <<< min (e - p) (mag.log2 + 2) ≤ 2 ^ (e - p) := by
            rw [Nat.shiftLeft_eq, Nat.one_mul]
            exact Nat.pow_le_pow_right (by omega) (Nat.min_le_left _ _)
          have hpos : 0 < 1 <<< min (e - p) (mag.log2 + 2) := by
            rw [Nat.shiftLeft_eq, Nat.one_mul]; exact Nat.two_pow_pos _
          simp only
          generalize 1 <<< min (e - p) (mag.log2 + 2) = gap at hgap hpos
          have : B ≤ mag / gap := by
            rw [Nat.le_div_iff_mul_le hpos]
            exact Nat.le_trans (Nat.mul_le_mul_left _ hgap) hlow
          omega
        refine ⟨c1, Or.inr c2, ?_⟩
        have hme : mag * 2 ^ p = mag * 2 ^ p := rfl
        rcases Nat.lt_or_ge m e with hm | hm
        · -- the bound has finer digits than what is kept: only the least of the binade
          have h3 : B * 2 ^ e ≤ mag * 2 ^ p := by
            have := Nat.mul_le_mul_right (2 ^ p) hlow
            rw [Nat.mul_assoc, ← Nat.pow_add, show e - p + p = e by omega] at this
            exact this
          have h4 : q * 2 ^ m ≤ B * 2 ^ e := by
            have a1 : q * 2 ^ m ≤ (2 * B) * 2 ^ m := Nat.mul_le_mul_right _ hq
            have a2 : (2 * B) * 2 ^ m = B * 2 ^ (m + 1) := by rw [Nat.pow_succ, Nat.mul_comm 2 B, Nat.mul_assoc, Nat.mul_comm 2]
            have a3 : B * 2 ^ (m + 1) ≤ B * 2 ^ e := Nat.mul_le_mul_left _ (Nat.pow_le_pow_right (by omega) hm)
            omega
          have h5 : mag * 2 ^ p ≤ B * 2 ^ e := by omega
          have h6 : mag ≤ B * 2 ^ (e - p) := by
            have : mag * 2 ^ p ≤ (B * 2 ^ (e - p)) * 2 ^ p := by
              rw [Nat.mul_assoc, ← Nat.pow_add, show e - p + p = e by omega]; exact h5
            exact Nat.le_of_mul_le_mul_right this (Nat.two_pow_pos _)
          have h7 : k ≤ B := by rw [← hk]; exact cut_le _ _ _ _ h6
          have h8 := Nat.mul_le_mul_right (2 ^ e) h7
          omega
        · have h6 : mag ≤ (q * 2 ^ (m - e)) * 2 ^ (e - p) := by
            have : mag * 2 ^ p ≤ ((q * 2 ^ (m - e)) * 2 ^ (e - p)) * 2 ^ p := by
              rw [Nat.mul_assoc, ← Nat.pow_add, show e - p + p = e by omega, Nat.mul_assoc, ← Nat.pow_add, show m - e + e = m by omega]
              exact h
            exact Nat.le_of_mul_le_mul_right this (Nat.two_pow_pos _)
          have h7 : k ≤ q * 2 ^ (m - e) := by rw [← hk]; exact cut_le _ _ _ _ h6
          have h8 := Nat.mul_le_mul_right (2 ^ e) h7
          rw [Nat.mul_assoc, ← Nat.pow_add, show m - e + e = m by omega] at h8
          exact h8
      · -- no digit is dropped
        have z : e - p = 0 := by omega
        rw [z] at hk
        have hk' : k = mag * 2 ^ (p - e) := by
          rw [← hk]
          have c1 := cut_le false (mag <<< (p - e)) 0 (mag * 2 ^ (p - e)) (by rw [Nat.shiftLeft_eq, Nat.pow_zero, Nat.mul_one]; exact Nat.le_refl _)
          have c2 : mag * 2 ^ (p - e) ≤ Toward.even.cut false (mag <<< (p - e)) 0 := by
            unfold Toward.cut
            simp [Nat.shiftLeft_eq]
          omega
        subst hk'
        have hpow : mag * 2 ^ (p - e) * 2 ^ e = mag * 2 ^ p := by rw [Nat.mul_assoc, ← Nat.pow_add, show p - e + e = p by omega]
        refine ⟨?_, ?_, by rw [hpow]; exact h⟩
        · have : mag * 2 ^ (p - e) ≤ 2 ^ (l + 1) * 2 ^ (p - e) := Nat.mul_le_mul_right _ (by omega)
          rw [← Nat.pow_add] at this
          have h2 : 2 ^ (l + 1 + (p - e)) ≤ 2 ^ 53 := Nat.pow_le_pow_right (by omega) (by omega)
          have h3 : 2 * B = 2 ^ 53 := by decide
          omega
        · rcases Nat.eq_zero_or_pos e with he0 | he0
          · exact Or.inl he0
          · right
            have : 2 ^ l * 2 ^ (p - e) ≤ mag * 2 ^ (p - e) := Nat.mul_le_mul_right _ l1
            rw [← Nat.pow_add, show l + (p - e) = 52 by omega, ← hB] at this
            exact this
    obtain ⟨k1, k2, k3⟩ := key _ rfl
    have hV := V_step e _ k1 k2
    generalize Toward.even.cut false (mag <<< (p - e)) (e - p) = k at *
    have hmin : V (min (e * B + k) I) ≤ V (e * B + k) := by
      rcases Nat.lt_or_ge I (e * B + k) with h1 | h1
      · rw [Nat.min_eq_right (by omega)]; exact Nat.le_of_lt (V_mono h1)
      · rw [Nat.min_eq_left h1]; exact Nat.le_refl _
    omega

theorem val_le {a b : Nat} : val a ≤ val b ↔ key a ≤ key b := by
  have v1 := @V_lt (rung a) (rung b)
  have v2 := @V_lt (rung b) (rung a)
  have v0 : ∀ r, V r = 0 ↔ r = 0 := fun r => by
    have := @V_eq r 0
    rw [show V 0 = 0 from rfl] at this
    exact this
  have z1 := v0 (rung a)
  have z2 := v0 (rung b)
  unfold key val
  cases neg a <;> cases neg b <;> simp <;> omega

/-- one side's value -/
def sval (σ : Bool) (b : Nat) : Int := if σ = true then -val b else val b

theorem add_finite {a b : Nat} (ha : rung a < I) (hb : rung b < I) :
    ∃ c, double.add a b = some c ∧ nan c = false ∧ ∀ σ (q m : Nat), q ≤ 2 * B → sval σ a + sval σ b ≤ ((q * 2 ^ m : Nat) : Int) → sval σ c ≤ ((q * 2 ^ m : Nat) : Int) := by
  unfold Format.add
  rw [read_number ha, read_number hb]
  unfold Datum.sum
  generalize hc : min (up (rung a)) (up (rung b)) = c
  have hmin : min (double.leastPlace + (up (rung a) : Int)) (double.leastPlace + (up (rung b) : Int)) = double.leastPlace + (c : Int) := by omega
  have e1 : (double.leastPlace + (up (rung a) : Int) - (double.leastPlace + (c : Int))).toNat = up (rung a) - c := by omega
  have e2 : (double.leastPlace + (up (rung b) : Int) - (double.leastPlace + (c : Int))).toNat = up (rung b) - c := by omega
  simp only [hmin, e1, e2, Option.map_some]
  have p1 := signed_mul (neg a) (mag (rung a)) (up (rung a) - c) c
  have p2 := signed_mul (neg b) (mag (rung b)) (up (rung b) - c) c
  rw [show up (rung a) - c + c = up (rung a) by omega, signed_V] at p1
  rw [show up (rung b) - c + c = up (rung b) by omega, signed_V] at p2
  generalize signed (neg a) (mag (rung a)) (up (rung a) - c) = x at p1 ⊢
  generalize signed (neg b) (mag (rung b)) (up (rung b) - c) = y at p2 ⊢
  have hval : val a + val b = (x + y) * ((2 ^ c : Nat) : Int) := by
    unfold val
    rw [p1, p2, Int.add_mul]
  generalize x + y = t at hval ⊢
  generalize hs : (if t = 0 then neg a && neg b else decide (t < 0)) = s
  show ∃ c', some (double.nearest s t.natAbs (double.leastPlace + (c : Int))) = some c' ∧ _
  rw [nearest_is]
  refine ⟨_, rfl, ?_⟩
  have hI := near_le_I t.natAbs c
  have hIS := I_lt_S
  obtain ⟨w1, w2⟩ := word_rung s (near t.natAbs c) (by omega)
  refine ⟨by unfold nan; rw [w1]; exact decide_eq_false (by omega), ?_⟩
  intro σ q m hq h
  have hsum : sval σ a + sval σ b = if σ = true then -(t * ((2 ^ c : Nat) : Int)) else t * ((2 ^ c : Nat) : Int) := by
    unfold sval
    cases σ
    · simpa using hval
    · simp only [if_true]
      rw [← hval]; omega
  have hpow : (0 : Int) < ((2 ^ c : Nat) : Int) := by exact_mod_cast Nat.two_pow_pos c
  have habs : ((t.natAbs * 2 ^ c : Nat) : Int) = (t.natAbs : Int) * ((2 ^ c : Nat) : Int) := by push_cast; rfl
  have hv : val (double.word s (near t.natAbs c)) = if s = true then -(V (near t.natAbs c) : Int) else (V (near t.natAbs c) : Int) := by
    unfold val
    rw [w1, w2]
  have hn := near_le t.natAbs c q m hq
  have hp0 : (0 : Int) ≤ ((q * 2 ^ m : Nat) : Int) := Int.natCast_nonneg _
  rcases Int.lt_trichotomy t 0 with h0 | h0 | h0
  · have : s = true := by rw [← hs, if_neg (by omega)]; simpa using h0
    rw [this] at hv
    simp only [if_true] at hv
    unfold sval
    cases σ
    · simp only [Bool.false_eq_true, if_false, this]; omega
    · simp only [if_true, this]
      rw [hsum] at h
      simp only [if_true] at h
      have hta : (t.natAbs : Int) = -t := by omega
      rw [hta, Int.neg_mul] at habs
      have := hn (by omega)
      omega
  · subst h0
    have : V (near (0 : Int).natAbs c) = 0 := by
      have e : near (0 : Int).natAbs c = 0 := by unfold near; simp
      rw [e]; rfl
    unfold sval
    rw [hv, this]
    revert hp0
    generalize ((q * 2 ^ m : Nat) : Int) = X
    intro hp0
    cases s <;> cases σ <;> simpa using hp0
  · have : s = false := by rw [← hs, if_neg (by omega)]; simpa using (by omega : ¬ t < 0)
    rw [this] at hv
    simp only [Bool.false_eq_true, if_false] at hv
    unfold sval
    cases σ
    · simp only [Bool.false_eq_true, if_false, this]
      rw [hsum] at h
      simp only [Bool.false_eq_true, if_false] at h
      have hta : (t.natAbs : Int) = t := by omega
      rw [hta] at habs
      have := hn (by omega)
      omega
    · simp only [if_true, this]; omega

/-- a sum with an infinity -/
theorem add_inf_left {a b : Nat} (ha : rung a = I) (hb : nan b = false) (hs : rung b = I → neg b = neg a) : ∃ c, double.add a b = some c ∧ rung c = I ∧ neg c = neg a := by
  have hI := I_lt_S
  obtain ⟨w1, w2⟩ := word_rung (neg a) I hI
  simp only [nan, decide_eq_false_iff_not] at hb
  unfold Format.add
  rw [read_inf ha]
  refine ⟨double.word (neg a) I, ?_, w1, w2⟩
  by_cases h : rung b = I
  · rw [read_inf h, hs h]
    simp only [Datum.sum, if_true, Option.map_some]
    rfl
  · rw [read_number (by omega)]
    rfl
theorem add_inf_right {a b : Nat} (hb : rung b = I) (ha : nan a = false) (hs : rung a = I → neg a = neg b) : ∃ c, double.add a b = some c ∧ rung c = I ∧ neg c = neg b := by
  have hI := I_lt_S
  obtain ⟨w1, w2⟩ := word_rung (neg b) I hI
  simp only [nan, decide_eq_false_iff_not] at ha
  unfold Format.add
  rw [read_inf hb]
  refine ⟨double.word (neg b) I, ?_, w1, w2⟩
  by_cases h : rung a = I
  · rw [read_inf h, hs h]
    simp only [Datum.sum, if_true, Option.map_some]
    rfl
  · rw [read_number (by omega)]
    rfl
theorem add_inf_both {a b : Nat} (ha : rung a = I) (hb : rung b = I) (hs : neg a ≠ neg b) : double.add a b = none := by
  unfold Format.add
  rw [read_inf ha, read_inf hb]
  simp [Datum.sum, hs]
theorem add_nan_left {a : Nat} (b : Nat) (h : nan a = true) : double.add a b = none := by
  simp only [nan, decide_eq_true_eq] at h
  unfold Format.add
  rw [read_nan h]
  rfl
theorem add_nan_right (a : Nat) {b : Nat} (h : nan b = true) : double.add a b = none := by
  simp only [nan, decide_eq_true_eq] at h
  unfold Format.add
  rw [read_nan h]
  cases double.read a <;> rfl
theorem add_some {a b c : Nat} (h : double.add a b = some c) : nan a = false ∧ nan b = false ∧ nan c = false := by
  cases ha : nan a with
  | true => rw [add_nan_left b ha] at h; cases h
  | false =>
    cases hb : nan b with
    | true => rw [add_nan_right a hb] at h; cases h
    | false =>
      refine ⟨rfl, rfl, ?_⟩
      have ha' := ha
      have hb' := hb
      simp only [nan, decide_eq_false_iff_not] at ha' hb'
      by_cases h1 : rung a = I
      · by_cases h2 : rung b = I ∧ neg b ≠ neg a
        · rw [add_inf_both h1 h2.1 (fun e => h2.2 e.symm)] at h; cases h
        · obtain ⟨d, hd, r, _⟩ := add_inf_left h1 hb (fun e => by
            by_cases n : neg b = neg a
            · exact n
            · exact absurd ⟨e, n⟩ h2)
          rw [hd] at h; cases h
          unfold nan; rw [r]; exact decide_eq_false (by omega)
      · by_cases h2 : rung b = I
        · obtain ⟨d, hd, r, _⟩ := add_inf_right h2 ha (fun e => absurd e h1)
          rw [hd] at h; cases h
          unfold nan; rw [r]; exact decide_eq_false (by omega)
        · obtain ⟨d, hd, r, _⟩ := add_finite (a := a) (b := b) (by omega) (by omega)
          rw [hd] at h; cases h
          exact r

/-- a sum that goes on; none: it is no number -/
def addO : Option Nat → Nat → Option Nat
  | none, _ => none
  | some c, f => double.add c f
def fsum (l : List Nat) : Option Nat := l.foldl addO (some 0)
theorem fsum_snoc (l : List Nat) (f : Nat) : fsum (l ++ [f]) = addO (fsum l) f := by unfold fsum; rw [List.foldl_append]; rfl
theorem snoc_cases {α : Type} {p : List α → Prop} (l : List α) (h0 : p []) (h1 : ∀ l a, p l → p (l ++ [a])) : p l := by
  have : ∀ l : List α, p l.reverse := by
    intro l
    induction l with
    | nil => exact h0
    | cons a l ih => rw [List.reverse_cons]; exact h1 _ _ ih
  have h := this l.reverse
  rwa [List.reverse_reverse] at h
theorem fsum_num {l : List Nat} {c : Nat} (h : fsum l = some c) : nan c = false := by
  revert c
  refine snoc_cases (p := fun l => ∀ {c : Nat}, fsum l = some c → nan c = false) l ?_ ?_
  · intro c h; cases h; decide
  · intro l a _ c h
    rw [fsum_snoc] at h
    cases hl : fsum l with
    | none => rw [hl] at h; cases h
    | some d => rw [hl] at h; exact (add_some h).2.2
/-- what is no number leaves none -/
theorem fsum_nan {l : List Nat} {f : Nat} (hf : f ∈ l) (hn : nan f = true) : fsum l = none := by
  revert hf
  refine snoc_cases (p := fun l => f ∈ l → fsum l = none) l ?_ ?_
  · intro h; cases h
  · intro l a ih h
    rw [fsum_snoc]
    rcases List.mem_append.1 h with h | h
    · rw [ih h]; rfl
    · simp at h
      subst h
      cases fsum l with
      | none => rfl
      | some d => exact add_nan_right d hn
/-- behind an infinity there is just that one, or none -/
theorem fsum_inf {l : List Nat} {f c : Nat} (hf : f ∈ l) (hr : rung f = I) (h : fsum l = some c) : rung c = I ∧ neg c = neg f := by
  revert c
  revert hf
  refine snoc_cases (p := fun l => f ∈ l → ∀ {c : Nat}, fsum l = some c → rung c = I ∧ neg c = neg f) l ?_ ?_
  · intro h; cases h
  · intro l a ih hm c h
    rw [fsum_snoc] at h
    cases hl : fsum l with
    | none => rw [hl] at h; cases h
    | some d =>
      rw [hl] at h
      have h : double.add d a = some c := h
      obtain ⟨nd, na, _⟩ := add_some h
      rcases List.mem_append.1 hm with hm | hm
      · obtain ⟨r1, r2⟩ := ih hm hl
        by_cases hb : rung a = I ∧ neg a ≠ neg d
        · rw [add_inf_both r1 hb.1 (fun e => hb.2 e.symm)] at h; cases h
        · obtain ⟨e, he, s1, s2⟩ := add_inf_left r1 na (fun e => by
            by_cases n : neg a = neg d
            · exact n
            · exact absurd ⟨e, n⟩ hb)
          rw [he] at h; cases h
          exact ⟨s1, s2.trans r2⟩
      · simp at hm
        subst hm
        by_cases hb : rung d = I ∧ neg d ≠ neg f
        · rw [add_inf_both hb.1 hr hb.2] at h; cases h
        · obtain ⟨e, he, s1, s2⟩ := add_inf_right hr nd (fun e => by
            by_cases n : neg d = neg f
            · exact n
            · exact absurd ⟨e, n⟩ hb)
          rw [he] at h; cases h
          exact ⟨s1, s2⟩
theorem fsum_both {l : List Nat} {f g : Nat} (hf : f ∈ l) (hg : g ∈ l) (h1 : rung f = I) (h2 : rung g = I) (hs : neg f ≠ neg g) : fsum l = none := by
  cases h : fsum l with
  | none => rfl
  | some c =>
    have a := (fsum_inf hf h1 h).2
    have b := (fsum_inf hg h2 h).2
    exact absurd (a.symm.trans b) hs

/-- a power of two, kept closed -/
def pw (n : Nat) : Nat := 2 ^ n
theorem VI : V I = B * pw 2046 := by decide +kernel
theorem sval_inf {σ : Bool} {c : Nat} (h : rung c = I) : sval σ c = if (σ == neg c) = true then ((B * pw 2046 : Nat) : Int) else -((B * pw 2046 : Nat) : Int) := by
  unfold sval val
  rw [h, VI]
  generalize B * pw 2046 = X
  cases σ <;> cases neg c <;> simp
theorem big (n : Nat) (h : n ≤ 1000) : n * pw 2071 < B * pw 2046 := by
  have h1 : n * pw 2071 ≤ 1000 * pw 2071 := Nat.mul_le_mul_right _ h
  have h2 : 1000 * pw 2071 < B * pw 2046 := by decide +kernel
  omega
/-- ON ONE SIDE: of numbers none of which is beyond a great one the sum doesn't go beyond all. -/
theorem fsum_side (σ : Bool) (l : List Nat) (hl : l.length ≤ 1000) (h : ∀ f ∈ l, nan f = false ∧ sval σ f ≤ ((1 * pw 2071 : Nat) : Int)) :
    ∃ c, fsum l = some c ∧ nan c = false ∧ sval σ c ≤ ((l.length * pw 2071 : Nat) : Int) := by
  revert hl h
  refine snoc_cases (p := fun l => l.length ≤ 1000 → (∀ f ∈ l, nan f = false ∧ sval σ f ≤ ((1 * pw 2071 : Nat) : Int)) → ∃ c, fsum l = some c ∧ nan c = false ∧ sval σ c ≤ ((l.length * pw 2071 : Nat) : Int)) l ?_ ?_
  · intro _ _
    exact ⟨0, rfl, by decide, by cases σ <;> decide +kernel⟩
  · intro l a ih hl h
    rw [List.length_append, List.length_singleton] at hl ⊢
    obtain ⟨c, h1, h2, h3⟩ := ih (by omega) fun f hf => h f (List.mem_append_left _ hf)
    obtain ⟨na, va⟩ := h a (by simp)
    rw [fsum_snoc, h1]
    show ∃ c', double.add c a = some c' ∧ _
    have b1 := big l.length (by omega)
    have b2 := big 1 (by omega)
    have hsum : (l.length + 1) * pw 2071 = l.length * pw 2071 + 1 * pw 2071 := Nat.add_mul _ _ _
    have hN : 2 * B ≥ 2000 := by decide
    have hfin : rung c < I → rung a < I → ∃ d, double.add c a = some d ∧ nan d = false ∧ ∀ σ (q m : Nat), q ≤ 2 * B → sval σ c + sval σ a ≤ ((q * pw m : Nat) : Int) → sval σ d ≤ ((q * pw m : Nat) : Int) := @add_finite c a
    have hneg : ∀ x : Nat, rung x = I → (sval σ x ≤ ((l.length * pw 2071 : Nat) : Int) ∨ sval σ x ≤ ((1 * pw 2071 : Nat) : Int)) → neg x = !σ ∧ sval σ x ≤ 0 := by
      intro x hx hle
      have e := sval_inf (σ := σ) hx
      revert e hle b1 b2
      generalize l.length * pw 2071 = P
      generalize 1 * pw 2071 = Q
      generalize B * pw 2046 = X
      intro b1 b2 hle e
      by_cases hh : (σ == neg x) = true
      · rw [if_pos hh] at e; exfalso; omega
      · rw [if_neg hh] at e
        refine ⟨?_, by omega⟩
        revert hh
        cases σ <;> cases neg x <;> simp
    have h0 : (0 : Int) ≤ (((l.length + 1) * pw 2071 : Nat) : Int) := Int.natCast_nonneg _
    have h2' := h2
    have na' := na
    simp only [nan, decide_eq_false_iff_not] at h2' na'
    by_cases r1 : rung c = I
    · obtain ⟨n1, _⟩ := hneg c r1 (Or.inl h3)
      obtain ⟨d, hd, s1, s2⟩ := add_inf_left r1 na (fun e => by rw [n1, (hneg a e (Or.inr va)).1])
      refine ⟨d, hd, (add_some hd).2.2, ?_⟩
      have e := sval_inf (σ := σ) s1
      rw [s2, n1, if_neg (by cases σ <;> simp)] at e
      rw [e]
      have : (0 : Int) ≤ ((B * pw 2046 : Nat) : Int) := Int.natCast_nonneg _
      revert h0 this
      generalize (((l.length + 1) * pw 2071 : Nat) : Int) = P
      generalize ((B * pw 2046 : Nat) : Int) = X
      intro h0 this
      omega
    · by_cases r2 : rung a = I
      · obtain ⟨n2, _⟩ := hneg a r2 (Or.inr va)
        obtain ⟨d, hd, s1, s2⟩ := add_inf_right r2 h2 (fun e => absurd e r1)
        refine ⟨d, hd, (add_some hd).2.2, ?_⟩
        have e := sval_inf (σ := σ) s1
        rw [s2, n2, if_neg (by cases σ <;> simp)] at e
        rw [e]
        have : (0 : Int) ≤ ((B * pw 2046 : Nat) : Int) := Int.natCast_nonneg _
        revert h0 this
        generalize (((l.length + 1) * pw 2071 : Nat) : Int) = P
        generalize ((B * pw 2046 : Nat) : Int) = X
        intro h0 this
        omega
      · obtain ⟨d, hd, s1, s2⟩ := hfin (by omega) (by omega)
        refine ⟨d, hd, s1, s2 σ (l.length + 1) 2071 (by omega) ?_⟩
        rw [hsum]
        revert h3 va
        generalize l.length * pw 2071 = P
        generalize 1 * pw 2071 = Q
        intro h3 va
        omega
end Fl
end Go.Proofs.Ytimalebcbfhgaaa
