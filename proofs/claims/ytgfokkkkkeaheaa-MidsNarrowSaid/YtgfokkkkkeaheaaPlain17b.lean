/- The plain law of layer 17: how many entries stand ahead is between the two ends. -/
import Derived.Test.YtgfokkkkkeaheaaPlain17
namespace Go.Proofs.Ytgfokkkkkeaheaa
namespace Md

theorem less_iff (a b : Ent) : less a b = true ↔ a.h < b.h ∨ (a.h = b.h ∧ (a.v < b.v ∨ (a.v = b.v ∧ a.p < b.p))) := by
  unfold less
  by_cases h0 : a.h = b.h
  · rw [if_neg (by simpa using h0)]
    by_cases h1 : a.v = b.v
    · rw [if_neg (by simpa using h1)]
      simp [h0, h1]
    · rw [if_pos (by simpa using h1)]
      simp [h0, h1]
  · rw [if_pos (by simpa using h0)]
    simp [h0]
theorem less_trans {a b c : Ent} (h1 : less a b = true) (h2 : less b c = true) : less a c = true := by
  rw [less_iff] at h1 h2 ⊢
  omega

/-- entries that rise -/
def Rise (s : List Ent) : Prop := ∀ i j (hj : j < s.length), (hi : i < j) → less (s[i]'(by omega)) s[j] = true

/-- of the first k so many stand ahead of x -/
def cntTo (s : List Ent) (x : Ent) : Nat → Nat
  | 0 => 0
  | k + 1 => if h : k < s.length then (if less s[k] x = true then cntTo s x k + 1 else cntTo s x k) else cntTo s x k
def cnt (s : List Ent) (x : Ent) : Nat := cntTo s x s.length
theorem cntTo_le (s : List Ent) (x : Ent) (k : Nat) : cntTo s x k ≤ k := by
  induction k with
  | zero => simp [cntTo]
  | succ k ih => unfold cntTo; split; (split <;> omega); omega
theorem cntTo_succ (s : List Ent) (x : Ent) (k : Nat) (h : k < s.length) : cntTo s x (k + 1) = if less s[k] x = true then cntTo s x k + 1 else cntTo s x k := by
  rw [cntTo, dif_pos h]

/-- those that stand ahead are the first ones -/
theorem cntTo_first (s : List Ent) (x : Ent) (hs : Rise s) (k : Nat) (hk : k ≤ s.length) : ∀ i (hi : i < k), less (s[i]'(by omega)) x = decide (i < cntTo s x k) := by
  induction k with
  | zero => intro i hi; omega
  | succ k ih =>
    have ih := ih (by omega)
    have hle := cntTo_le s x k
    intro i hi
    rw [cntTo_succ s x k (by omega)]
    by_cases hl : less (s[k]'(by omega)) x = true
    · rw [if_pos hl]
      have hall : cntTo s x k = k := by
        rcases Nat.eq_zero_or_pos k with h0 | h0
        · omega
        · have h1 := ih (k - 1) (by omega)
          rw [less_trans (hs (k - 1) k (by omega) (by omega)) hl] at h1
          have := of_decide_eq_true h1.symm
          omega
      rw [hall]
      by_cases hik : i = k
      · subst hik; simp [hl]
      · rw [ih i (by omega), hall]
        simp; omega
    · rw [if_neg hl]
      by_cases hik : i = k
      · subst hik
        simp only [Bool.not_eq_true] at hl
        rw [hl]
        simp; omega
      · exact ih i (by omega)
theorem cnt_first (s : List Ent) (x : Ent) (hs : Rise s) (i : Nat) (hi : i < s.length) : less s[i] x = decide (i < cnt s x) :=
  cntTo_first s x hs s.length (Nat.le_refl _) i hi

/-- midpoints in order, none farther than 8 from the one ahead of it; prev: one more than the number of that one -/
def Good (s : List Ent) : Nat → List Mid → Prop
  | prev, [] => prev = s.length
  | prev, x :: xs => ∃ p, ∃ h : p < s.length, x = ⟨s[p], (p : Int)⟩ ∧ prev ≤ p ∧ p ≤ prev + 7 ∧ Good s (p + 1) xs

def lastTo (n : Nat) : Nat → Nat
  | 0 => 0
  | k + 1 => if mark n k = true then k + 1 else lastTo n k
theorem lastTo_is (n k : Nat) (h0 : 0 < k) (hk : k < n) : lastTo n k = (k - 1) / 8 * 8 + 1 := by
  induction k with
  | zero => omega
  | succ k ih =>
    unfold lastTo
    by_cases h8 : k % 8 = 0
    · rw [if_pos (by simp [mark, h8])]
      omega
    · rw [if_neg (by simp [mark, h8]; omega), ih (by omega) (by omega)]
      omega
theorem mkTo_good (l : List Ent) (k : Nat) (hk : k ≤ l.length) : ∀ rest, Good l (lastTo l.length k) rest → Good l 0 (mkTo l k ++ rest) := by
  induction k with
  | zero => intro rest h; simpa [mkTo, lastTo] using h
  | succ k ih =>
    have ih := ih (by omega)
    intro rest h
    by_cases hm : mark l.length k = true
    · rw [mkTo_hit l k (by omega) hm, List.append_assoc]
      apply ih
      rw [lastTo, if_pos hm] at h
      refine ⟨k, by omega, rfl, ?_, ?_, h⟩
      · rcases Nat.eq_zero_or_pos k with h0 | h0
        · subst h0; simp [lastTo]
        · rw [lastTo_is _ _ h0 (by omega)]; omega
      · rcases Nat.eq_zero_or_pos k with h0 | h0
        · subst h0; simp
        · rw [lastTo_is _ _ h0 (by omega)]; omega
    · rw [mkTo_miss l k (by omega) (by simpa using hm)]
      apply ih
      rw [lastTo, if_neg hm] at h
      exact h
theorem mk_good (l : List Ent) : Good l 0 (mk l) := by
  have h := mkTo_good l l.length (Nat.le_refl _) [] (by
    show lastTo l.length l.length = l.length
    rcases Nat.eq_zero_or_pos l.length with h0 | h0
    · rw [h0]; rfl
    · obtain ⟨n, hn⟩ : ∃ n, l.length = n + 1 := ⟨l.length - 1, by omega⟩
      rw [hn, lastTo, if_pos (by simp [mark])])
  simpa [mk] using h

theorem narGo_good (s : List Ent) (x : Ent) (hs : Rise s) (m : List Mid) (prev : Nat) (hg : Good s prev m) (hp : prev ≤ cnt s x) :
    (prev : Int) ≤ (narGo s.length x m prev).1 ∧ (narGo s.length x m prev).1 ≤ (cnt s x : Int) ∧ (cnt s x : Int) ≤ (narGo s.length x m prev).2 ∧ (narGo s.length x m prev).2 ≤ (s.length : Int) ∧
      (narGo s.length x m prev).2 - (narGo s.length x m prev).1 ≤ 7 := by
  have hc := cntTo_le s x s.length
  have hc : cnt s x ≤ s.length := hc
  induction m generalizing prev with
  | nil =>
    have : prev = s.length := hg
    simp only [narGo]
    omega
  | cons y m ih =>
    obtain ⟨p, hpl, rfl, h1, h2, h3⟩ := hg
    have hf := cnt_first s x hs p hpl
    have hat : min (max (p : Int) 0) (s.length : Int) = (p : Int) := by omega
    have hat2 : min (p : Int) ((s.length : Int) - 1) + 1 = ((p + 1 : Nat) : Int) := by omega
    unfold narGo
    simp only [hat, hat2]
    by_cases hlt : p < cnt s x
    · rw [if_pos (by rw [hf]; simpa using hlt)]
      have := ih (p + 1) h3 (by omega)
      omega
    · rw [if_neg (by rw [hf]; simpa using hlt)]
      simp only
      omega

/-- THE STAGE's THEOREM -/
theorem between (s : List Ent) (x : Ent) (hs : Rise s) :
    0 ≤ (narrow (mk s) s.length x).1 ∧ (narrow (mk s) s.length x).2 ≤ (s.length : Int) ∧ (narrow (mk s) s.length x).1 ≤ (cnt s x : Int) ∧ (cnt s x : Int) ≤ (narrow (mk s) s.length x).2 ∧
      (narrow (mk s) s.length x).2 - (narrow (mk s) s.length x).1 ≤ 7 := by
  have h := narGo_good s x hs (mk s) 0 (mk_good s) (by omega)
  have e : max (s.length : Int) 0 = (s.length : Int) := by omega
  unfold narrow
  rw [e]
  simp only
  simp only [Int.natCast_zero] at h
  omega

/-- of the first k those that rise -/
def risTo (l : List Ent) : Nat → List Ent
  | 0 => []
  | k + 1 => if h : k < l.length then
      (match (risTo l k).getLast? with
        | none => [l[k]]
        | some z => if less z l[k] = true then risTo l k ++ [l[k]] else risTo l k)
    else risTo l k
theorem risTo_le (l : List Ent) (k : Nat) : (risTo l k).length ≤ k := by
  induction k with
  | zero => simp [risTo]
  | succ k ih =>
    unfold risTo
    split
    · split
      · simp
      · split
        · simp; omega
        · omega
    · omega
theorem risTo_first (l : List Ent) (k : Nat) (h : k < l.length) (he : (risTo l k).length = 0) : risTo l (k + 1) = risTo l k ++ [l[k]] := by
  have : risTo l k = [] := List.eq_nil_of_length_eq_zero he
  rw [risTo, dif_pos h, this]
  rfl
theorem risTo_hit (l : List Ent) (k : Nat) (h : k < l.length) (he : 0 < (risTo l k).length) (hl : less ((risTo l k)[(risTo l k).length - 1]'(by omega)) l[k] = true) : risTo l (k + 1) = risTo l k ++ [l[k]] := by
  rw [risTo, dif_pos h, List.getLast?_eq_getElem?, List.getElem?_eq_getElem (by omega)]
  simp [hl]
theorem risTo_miss (l : List Ent) (k : Nat) (h : k < l.length) (he : 0 < (risTo l k).length) (hl : less ((risTo l k)[(risTo l k).length - 1]'(by omega)) l[k] = false) : risTo l (k + 1) = risTo l k := by
  rw [risTo, dif_pos h, List.getLast?_eq_getElem?, List.getElem?_eq_getElem (by omega)]
  simp [hl]

theorem rise_snoc (s : List Ent) (e : Ent) (hs : Rise s) (h : s.length = 0 ∨ ∃ h : 0 < s.length, less (s[s.length - 1]'(by omega)) e = true) : Rise (s ++ [e]) := by
  intro i j hj hij
  rw [List.length_append] at hj
  simp only [List.length_cons, List.length_nil] at hj
  by_cases hjs : j < s.length
  · rw [List.getElem_append_left (by omega), List.getElem_append_left hjs]
    exact hs i j hjs hij
  · have hje : j = s.length := by omega
    subst hje
    rw [List.getElem_append_left (by omega), List.getElem_append_right (by omega)]
    simp only [Nat.sub_self, List.getElem_cons_zero]
    rcases h with h | ⟨h0, h⟩
    · omega
    · by_cases hi : i = s.length - 1
      · subst hi; exact h
      · exact less_trans (hs i (s.length - 1) (by omega) (by omega)) h
theorem risTo_rise (l : List Ent) (k : Nat) (hk : k ≤ l.length) : Rise (risTo l k) := by
  induction k with
  | zero => intro i j hj; simp [risTo] at hj
  | succ k ih =>
    have ih := ih (by omega)
    rcases Nat.eq_zero_or_pos (risTo l k).length with he | he
    · rw [risTo_first l k (by omega) he]
      exact rise_snoc _ _ ih (Or.inl he)
    · cases hl : less ((risTo l k)[(risTo l k).length - 1]'(by omega)) (l[k]'(by omega)) with
      | true =>
        rw [risTo_hit l k (by omega) he hl]
        exact rise_snoc _ _ ih (Or.inr ⟨he, hl⟩)
      | false =>
        rw [risTo_miss l k (by omega) he hl]
        exact ih
end Md
end Go.Proofs.Ytgfokkkkkeaheaa
