/- Plain laws of the ends of numbers, by their keys; of classes. -/
import Derived.Test.YtimalebcbfhgaaaW04a
namespace Go.Proofs.Ytimalebcbfhgaaa
namespace Wt
open Fl
theorem wkey_inj {x y : Nat} (hx : x < 2 * S) (hy : y < 2 * S) (h : wkey x = wkey y) : x = y := by
  unfold wkey at h
  split at h <;> split at h <;> omega
theorem wkey_lt {x : Nat} (hx : x < 2 * S) : wkey x < 2 * S := by unfold wkey; split <;> omega
theorem wback_lt {x : Nat} (hx : x < 2 * S) : wback x < 2 * S := by unfold wback; split <;> omega
theorem wkey_wback {x : Nat} (hx : x < 2 * S) : wkey (wback x) = x := by unfold wkey wback; split <;> split <;> omega
theorem wback_wkey {x : Nat} (hx : x < 2 * S) : wback (wkey x) = x := by unfold wkey wback; split <;> split <;> omega
def loF (a : Nat) (l : List Nat) : Nat := l.foldl (fun a f => if lessB f a = true then f else a) a
def hiF (a : Nat) (l : List Nat) : Nat := l.foldl (fun a f => if lessB a f = true then f else a) a
theorem loF_snoc (a : Nat) (l : List Nat) (f : Nat) : loF a (l ++ [f]) = if lessB f (loF a l) = true then f else loF a l := by unfold loF; rw [List.foldl_append]; rfl
theorem hiF_snoc (a : Nat) (l : List Nat) (f : Nat) : hiF a (l ++ [f]) = if lessB (hiF a l) f = true then f else hiF a l := by unfold hiF; rw [List.foldl_append]; rfl
theorem less_is (x y : Nat) : lessB x y = true ↔ wkey x < wkey y := by unfold lessB; simp
theorem less_not (x y : Nat) : lessB x y = false ↔ wkey y ≤ wkey x := by unfold lessB; simp
/-- the least one: it is one of them, and none is less -/
theorem loF_spec (a : Nat) (l : List Nat) : (loF a l = a ∨ loF a l ∈ l) ∧ wkey (loF a l) ≤ wkey a ∧ ∀ f ∈ l, wkey (loF a l) ≤ wkey f := by
  refine snoc_cases (p := fun l => (loF a l = a ∨ loF a l ∈ l) ∧ wkey (loF a l) ≤ wkey a ∧ ∀ f ∈ l, wkey (loF a l) ≤ wkey f) l ⟨Or.inl rfl, Nat.le_refl _, fun f h => by cases h⟩ ?_
  intro l f ⟨h1, h2, h3⟩
  rw [loF_snoc]
  by_cases h : lessB f (loF a l) = true
  · rw [if_pos h]
    rw [less_is] at h
    refine ⟨Or.inr (by simp), by omega, fun g hg => ?_⟩
    rcases List.mem_append.1 hg with hg | hg
    · have := h3 g hg; omega
    · simp at hg; subst hg; exact Nat.le_refl _
  · rw [if_neg h]
    have h' : lessB f (loF a l) = false := by simpa using h
    rw [less_not] at h'
    refine ⟨?_, h2, fun g hg => ?_⟩
    · rcases h1 with h1 | h1
      · exact Or.inl h1
      · exact Or.inr (List.mem_append_left _ h1)
    · rcases List.mem_append.1 hg with hg | hg
      · exact h3 g hg
      · simp at hg; subst hg; exact h'
theorem hiF_spec (a : Nat) (l : List Nat) : (hiF a l = a ∨ hiF a l ∈ l) ∧ wkey a ≤ wkey (hiF a l) ∧ ∀ f ∈ l, wkey f ≤ wkey (hiF a l) := by
  refine snoc_cases (p := fun l => (hiF a l = a ∨ hiF a l ∈ l) ∧ wkey a ≤ wkey (hiF a l) ∧ ∀ f ∈ l, wkey f ≤ wkey (hiF a l)) l ⟨Or.inl rfl, Nat.le_refl _, fun f h => by cases h⟩ ?_
  intro l f ⟨h1, h2, h3⟩
  rw [hiF_snoc]
  by_cases h : lessB (hiF a l) f = true
  · rw [if_pos h]
    rw [less_is] at h
    refine ⟨Or.inr (by simp), by omega, fun g hg => ?_⟩
    rcases List.mem_append.1 hg with hg | hg
    · have := h3 g hg; omega
    · simp at hg; subst hg; exact Nat.le_refl _
  · rw [if_neg h]
    have h' : lessB (hiF a l) f = false := by simpa using h
    rw [less_not] at h'
    refine ⟨?_, h2, fun g hg => ?_⟩
    · rcases h1 with h1 | h1
      · exact Or.inl h1
      · exact Or.inr (List.mem_append_left _ h1)
    · rcases List.mem_append.1 hg with hg | hg
      · exact h3 g hg
      · simp at hg; subst hg; exact h'
theorem lo_le_hi (a : Nat) (l : List Nat) : wkey (loF a l) ≤ wkey (hiF a l) := Nat.le_trans (loF_spec a l).2.1 (hiF_spec a l).2.1
theorem loF_lt {a : Nat} {l : List Nat} (ha : a < 2 * S) (hl : ∀ f ∈ l, f < 2 * S) : loF a l < 2 * S := by
  rcases (loF_spec a l).1 with h | h
  · rw [h]; exact ha
  · exact hl _ h
theorem hiF_lt {a : Nat} {l : List Nat} (ha : a < 2 * S) (hl : ∀ f ∈ l, f < 2 * S) : hiF a l < 2 * S := by
  rcases (hiF_spec a l).1 with h | h
  · rw [h]; exact ha
  · exact hl _ h
/-- the ends of a list -/
def eLo (l : List Nat) : Nat := loF (l.getD 0 0) l
def eHi (l : List Nat) : Nat := hiF (l.getD 0 0) l
theorem eLo_spec {l : List Nat} (h : l ≠ []) : eLo l ∈ l ∧ ∀ f ∈ l, wkey (eLo l) ≤ wkey f := by
  obtain ⟨a, t, rfl⟩ := List.exists_cons_of_ne_nil h
  obtain ⟨h1, h2, h3⟩ := loF_spec a (a :: t)
  refine ⟨?_, h3⟩
  rcases h1 with h1 | h1
  · show loF a (a :: t) ∈ _
    rw [h1]; simp
  · exact h1
theorem eHi_spec {l : List Nat} (h : l ≠ []) : eHi l ∈ l ∧ ∀ f ∈ l, wkey f ≤ wkey (eHi l) := by
  obtain ⟨a, t, rfl⟩ := List.exists_cons_of_ne_nil h
  obtain ⟨h1, h2, h3⟩ := hiF_spec a (a :: t)
  refine ⟨?_, h3⟩
  rcases h1 with h1 | h1
  · show hiF a (a :: t) ∈ _
    rw [h1]; simp
  · exact h1
theorem eLo_unique {l : List Nat} {x : Nat} (hl : ∀ f ∈ l, f < 2 * S) (hx : x ∈ l) (h : ∀ f ∈ l, wkey x ≤ wkey f) : eLo l = x := by
  have hne : l ≠ [] := List.ne_nil_of_mem hx
  obtain ⟨h1, h2⟩ := eLo_spec hne
  exact wkey_inj (hl _ h1) (hl _ hx) (Nat.le_antisymm (h2 _ hx) (h _ h1))
theorem eHi_unique {l : List Nat} {x : Nat} (hl : ∀ f ∈ l, f < 2 * S) (hx : x ∈ l) (h : ∀ f ∈ l, wkey f ≤ wkey x) : eHi l = x := by
  have hne : l ≠ [] := List.ne_nil_of_mem hx
  obtain ⟨h1, h2⟩ := eHi_spec hne
  exact wkey_inj (hl _ h1) (hl _ hx) (Nat.le_antisymm (h _ h1) (h2 _ hx))
end Wt
end Go.Proofs.Ytimalebcbfhgaaa
