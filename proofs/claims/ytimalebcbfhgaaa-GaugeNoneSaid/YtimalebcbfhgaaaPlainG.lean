/- Plain laws of what weights come to: of two lists, one behind the other. -/
import Derived.Test.YtimalebcbfhgaaaW28d
namespace Go.Proofs.Ytimalebcbfhgaaa
namespace Wt
open Go.RowKit Fl
theorem nums_append (a b : List (Nat × Nat)) : nums (a ++ b) = nums a ++ nums b := by unfold nums wts; rw [List.map_append, List.filter_append]
theorem nons_append (a b : List (Nat × Nat)) : nons (a ++ b) = nons a + nons b := by unfold nons wts; rw [List.map_append, List.countP_append]
theorem wts_zip (l : List Nat) : wts l.zipIdx = l := by unfold wts; exact List.zipIdx_map_fst 0 l
theorem nums_zip (l : List Nat) : nums l.zipIdx = l.filter fun x => !nan x := by unfold nums; rw [wts_zip]
theorem nums_count (l : List (Nat × Nat)) : (nums l).length + nons l = l.length := by
  unfold nums nons
  have h : ∀ m : List Nat, (m.filter fun x => !nan x).length + m.countP nan = m.length := by
    intro m
    induction m with
    | nil => rfl
    | cons x m ih =>
      cases hx : nan x
      · rw [List.filter_cons, List.countP_cons]
        simp [hx]
        omega
      · rw [List.filter_cons, List.countP_cons]
        simp [hx]
        omega
  have := h (wts l)
  rw [this]
  unfold wts
  exact List.length_map _
theorem eLo_append {a b : List Nat} (ha : ∀ f ∈ a, f < 2 * S) (hb : ∀ f ∈ b, f < 2 * S) (na : a ≠ []) (nb : b ≠ []) : eLo (a ++ b) = if lessB (eLo b) (eLo a) = true then eLo b else eLo a := by
  obtain ⟨a1, a2⟩ := eLo_spec na
  obtain ⟨b1, b2⟩ := eLo_spec nb
  have hab : ∀ f ∈ a ++ b, f < 2 * S := fun f hf => (List.mem_append.1 hf).elim (ha f) (hb f)
  by_cases h : lessB (eLo b) (eLo a) = true
  · rw [if_pos h]
    rw [less_is] at h
    refine eLo_unique hab (List.mem_append_right _ b1) fun f hf => ?_
    rcases List.mem_append.1 hf with hf | hf
    · have := a2 f hf; omega
    · exact b2 f hf
  · rw [if_neg h]
    have h' : lessB (eLo b) (eLo a) = false := by simpa using h
    rw [less_not] at h'
    refine eLo_unique hab (List.mem_append_left _ a1) fun f hf => ?_
    rcases List.mem_append.1 hf with hf | hf
    · exact a2 f hf
    · have := b2 f hf; omega
theorem eHi_append {a b : List Nat} (ha : ∀ f ∈ a, f < 2 * S) (hb : ∀ f ∈ b, f < 2 * S) (na : a ≠ []) (nb : b ≠ []) : eHi (a ++ b) = if lessB (eHi a) (eHi b) = true then eHi b else eHi a := by
  obtain ⟨a1, a2⟩ := eHi_spec na
  obtain ⟨b1, b2⟩ := eHi_spec nb
  have hab : ∀ f ∈ a ++ b, f < 2 * S := fun f hf => (List.mem_append.1 hf).elim (ha f) (hb f)
  by_cases h : lessB (eHi a) (eHi b) = true
  · rw [if_pos h]
    rw [less_is] at h
    refine eHi_unique hab (List.mem_append_right _ b1) fun f hf => ?_
    rcases List.mem_append.1 hf with hf | hf
    · have := a2 f hf; omega
    · exact b2 f hf
  · rw [if_neg h]
    have h' : lessB (eHi a) (eHi b) = false := by simpa using h
    rw [less_not] at h'
    refine eHi_unique hab (List.mem_append_left _ a1) fun f hf => ?_
    rcases List.mem_append.1 hf with hf | hf
    · exact a2 f hf
    · have := b2 f hf; omega
theorem ends_is {l : List Nat} {a b : Nat} {ok : Bool} (hn : l ≠ []) (h : endsV l = .tuple #[.float .f64 a, .float .f64 b, .bool ok]) : a = eLo l ∧ b = eHi l := by
  unfold endsV at h
  rw [if_neg (by simpa using hn)] at h
  simp at h
  exact ⟨h.1.symm, h.2.1.symm⟩
theorem ends_nil {a b : Nat} {ok : Bool} (h : endsV [] = .tuple #[.float .f64 a, .float .f64 b, .bool ok]) : a = 0 ∧ b = 0 := by
  have h' : Value.tuple #[.float .f64 0, .float .f64 0, .bool false] = .tuple #[.float .f64 a, .float .f64 b, .bool ok] := h
  simp at h'
  exact ⟨h'.1.symm, h'.2.1.symm⟩
end Wt
end Go.Proofs.Ytimalebcbfhgaaa
