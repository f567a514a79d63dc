/- Plain laws: what the sum of numbers may be, by the tests that the statements make. -/
import Derived.Test.YtimalebcbfhgaaaW04b
namespace Go.Proofs.Ytimalebcbfhgaaa
namespace Wt
open Go.RowKit Fl
def uT (f : Nat) : Bool := FloatKind.f64.format.order f 9218868437227405311 == some .gt
def dT (f : Nat) : Bool := FloatKind.f64.format.order f 18442240474082181119 == some .lt
def hT (f : Nat) : Bool := FloatKind.f64.format.order f 9094988921128908188 == some .gt
def lT (f : Nat) : Bool := FloatKind.f64.format.order f 18318360957983683996 == some .lt
theorem order_none {x : Nat} (y : Nat) (h : nan x = true) : FloatKind.f64.format.order x y = none := order_nan_left y h
theorem uT_is (f : Nat) : uT f = (!nan f && infB false f) := by
  cases hn : nan f with
  | true => unfold uT; rw [order_none _ hn]; rfl
  | false => unfold uT; rw [gt_is hn (by decide), inf_is hn]; simp
theorem key_le (f : Nat) (hn : nan f = false) : -(I : Int) ≤ key f ∧ key f ≤ (I : Int) := by
  simp only [nan, decide_eq_false_iff_not] at hn
  unfold key; split <;> omega
theorem dT_is (f : Nat) : dT f = (!nan f && infB true f) := by
  cases hn : nan f with
  | true => unfold dT; rw [order_none _ hn]; rfl
  | false =>
    unfold dT
    rw [lt_is hn (by decide)]
    have hm : key 18442240474082181119 = -9218868437227405311 := by decide
    rw [hm]
    have hI : I = 9218868437227405312 := rfl
    simp only [nan, decide_eq_false_iff_not] at hn
    unfold infB key
    rw [Bool.eq_iff_iff]
    cases neg f <;> simp <;> omega
theorem hT_false {f : Nat} (hn : nan f = false) (h : hT f = false) : sval false f ≤ ((1 * pw 2071 : Nat) : Int) := by
  unfold hT at h
  rw [gt_is hn (by decide), decide_eq_false_iff_not] at h
  have hv : val 9097271247288401920 = ((1 * pw 2071 : Nat) : Int) := by decide +kernel
  rw [← hv]
  show val f ≤ _
  rw [val_le]
  have h1 : key 9097271247288401920 = 9097271247288401920 := by decide
  have h2 : key 9094988921128908188 = 9094988921128908188 := by decide
  omega
theorem lT_false {f : Nat} (hn : nan f = false) (h : lT f = false) : sval true f ≤ ((1 * pw 2071 : Nat) : Int) := by
  unfold lT at h
  rw [lt_is hn (by decide), decide_eq_false_iff_not] at h
  have hv : val 18320643284143177728 = -((1 * pw 2071 : Nat) : Int) := by decide +kernel
  have h1 : key 18320643284143177728 = -9097271247288401920 := by decide
  have h2 : key 18318360957983683996 = -9094988921128908188 := by decide
  have h3 : val 18320643284143177728 ≤ val f := val_le.2 (by omega)
  rw [hv] at h3
  show -val f ≤ _
  omega
theorem pw7 (n : Nat) (h : n ≤ 128) : n * pw 2071 ≤ pw 2078 := by
  have h1 : n * pw 2071 ≤ 128 * pw 2071 := Nat.mul_le_mul_right _ h
  have h2 : 128 * pw 2071 = pw 2078 := by decide +kernel
  omega
theorem below303 {c : Nat} (n : Nat) (hn : n ≤ 128) (hc : nan c = false) (h : sval false c ≤ ((n * pw 2071 : Nat) : Int)) : (FloatKind.f64.format.order c 9139867303189443290 == some .lt) = true ∧ uT c = false := by
  have h1 := pw7 n hn
  have hv : val 9128796444679995392 = ((pw 2078 : Nat) : Int) := by decide +kernel
  have h2 : val c ≤ val 9128796444679995392 := by
    rw [hv]
    have : val c ≤ ((n * pw 2071 : Nat) : Int) := h
    omega
  rw [val_le] at h2
  have k1 : key 9128796444679995392 = 9128796444679995392 := by decide
  have k2 : key 9139867303189443290 = 9139867303189443290 := by decide
  have k3 : key 9218868437227405311 = 9218868437227405311 := by decide
  constructor
  · rw [lt_is hc (by decide), decide_eq_true_eq]; omega
  · unfold uT; rw [gt_is hc (by decide), decide_eq_false_iff_not]; omega
theorem above303 {c : Nat} (n : Nat) (hn : n ≤ 128) (hc : nan c = false) (h : sval true c ≤ ((n * pw 2071 : Nat) : Int)) : (FloatKind.f64.format.order c 18363239340044219098 == some .gt) = true ∧ dT c = false := by
  have h1 := pw7 n hn
  have hv : val 18352168481534771200 = -((pw 2078 : Nat) : Int) := by decide +kernel
  have h2 : val 18352168481534771200 ≤ val c := by
    rw [hv]
    have : -val c ≤ ((n * pw 2071 : Nat) : Int) := h
    omega
  rw [val_le] at h2
  have k1 : key 18352168481534771200 = -9128796444679995392 := by decide
  have k2 : key 18363239340044219098 = -9139867303189443290 := by decide
  have k3 : key 18442240474082181119 = -9218868437227405311 := by decide
  constructor
  · rw [gt_is hc (by decide), decide_eq_true_eq]; omega
  · unfold dT; rw [lt_is hc (by decide), decide_eq_false_iff_not]; omega
theorem uT_inf {f : Nat} (h : uT f = true) : nan f = false ∧ rung f = I ∧ neg f = false := by
  rw [uT_is, Bool.and_eq_true] at h
  unfold infB at h
  simp at h
  exact ⟨h.1, h.2.1, h.2.2⟩
theorem dT_inf {f : Nat} (h : dT f = true) : nan f = false ∧ rung f = I ∧ neg f = true := by
  rw [dT_is, Bool.and_eq_true] at h
  unfold infB at h
  simp at h
  exact ⟨h.1, h.2.1, h.2.2⟩
theorem inf_uT {c : Nat} (h1 : rung c = I) (h2 : neg c = false) : uT c = true := by
  have hn : nan c = false := by unfold nan; rw [h1]; exact decide_eq_false (by omega)
  rw [uT_is, hn]
  unfold infB
  rw [h1, h2]
  simp
theorem inf_dT {c : Nat} (h1 : rung c = I) (h2 : neg c = true) : dT c = true := by
  have hn : nan c = false := by unfold nan; rw [h1]; exact decide_eq_false (by omega)
  rw [dT_is, hn]
  unfold infB
  rw [h1, h2]
  simp
theorem IsSum.at_some' {l : List Nat} {x c : Nat} (h : IsSum l x) (e : fsum l = some c) : x = c := by
  have := h.2
  rw [e] at this
  exact this
theorem IsSum.at_none' {l : List Nat} {x : Nat} (h : IsSum l x) (e : fsum l = none) : nan x = true := by
  have := h.2
  rw [e] at this
  exact this
theorem any_snoc (t : Nat → Bool) {l : List Nat} {k : Nat} (h : k < l.length) : (l.take (k + 1)).any t = ((l.take k).any t || t l[k]) := by
  rw [take_snoc h, List.any_append]; simp
theorem any_not {t : Nat → Bool} {l : List Nat} (h : l.any t = false) {f : Nat} (hf : f ∈ l) : t f = false := by
  rw [List.any_eq_false] at h
  simpa using h f hf
/-- what the tests on a sum say, by those on its numbers -/
theorem sum_tests {l : List Nat} {s : Nat} (hs : IsSum l s) (hl : l.length ≤ 100) :
    ((l.any nan = true ∨ (l.any uT = true ∧ l.any dT = true)) → nan s = true) ∧
    (l.any nan = false → l.any (fun f => hT f || lT f) = false → nan s = false ∧ (FloatKind.f64.format.order s 9139867303189443290 == some .lt) = true ∧ (FloatKind.f64.format.order s 18363239340044219098 == some .gt) = true) ∧
    (l.any uT = true → nan s = false → uT s = true) ∧ (l.any dT = true → nan s = false → dT s = true) := by
  refine ⟨?_, ?_, ?_, ?_⟩
  · rintro (h | ⟨h1, h2⟩)
    · obtain ⟨f, hf, hn⟩ := List.any_eq_true.1 h
      exact hs.at_none' (fsum_nan hf hn)
    · obtain ⟨f, hf, hu⟩ := List.any_eq_true.1 h1
      obtain ⟨g, hg, hd⟩ := List.any_eq_true.1 h2
      obtain ⟨_, u1, u2⟩ := uT_inf hu
      obtain ⟨_, d1, d2⟩ := dT_inf hd
      exact hs.at_none' (fsum_both hf hg u1 d1 (by rw [u2, d2]; simp))
  · intro h1 h2
    have ha : ∀ f ∈ l, nan f = false ∧ hT f = false ∧ lT f = false := by
      intro f hf
      have := any_not h2 hf
      simp at this
      exact ⟨any_not h1 hf, this.1, this.2⟩
    obtain ⟨c, e1, e2, e3⟩ := fsum_side false l (by omega) fun f hf => ⟨(ha f hf).1, hT_false (ha f hf).1 (ha f hf).2.1⟩
    obtain ⟨c', e1', _, e3'⟩ := fsum_side true l (by omega) fun f hf => ⟨(ha f hf).1, lT_false (ha f hf).1 (ha f hf).2.2⟩
    rw [e1] at e1'
    cases e1'
    rw [hs.at_some' e1]
    exact ⟨e2, (below303 _ (by omega) e2 e3).1, (above303 _ (by omega) e2 e3').1⟩
  · intro h hn
    obtain ⟨f, hf, hu⟩ := List.any_eq_true.1 h
    obtain ⟨_, u1, u2⟩ := uT_inf hu
    cases e : fsum l with
    | none => rw [hs.at_none' e] at hn; cases hn
    | some c =>
      obtain ⟨r1, r2⟩ := fsum_inf hf u1 e
      rw [hs.at_some' e]
      exact inf_uT r1 (r2.trans u2)
  · intro h hn
    obtain ⟨f, hf, hu⟩ := List.any_eq_true.1 h
    obtain ⟨_, u1, u2⟩ := dT_inf hu
    cases e : fsum l with
    | none => rw [hs.at_none' e] at hn; cases hn
    | some c =>
      obtain ⟨r1, r2⟩ := fsum_inf hf u1 e
      rw [hs.at_some' e]
      exact inf_dT r1 (r2.trans u2)
end Wt
end Go.Proofs.Ytimalebcbfhgaaa
