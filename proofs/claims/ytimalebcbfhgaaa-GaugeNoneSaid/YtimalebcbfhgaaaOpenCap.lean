/- Lists of bits as arguments, with their capacity. -/
import Derived.Test.YtimalebcbfhgaaaOpen04
namespace Go.Proofs.Ytimalebcbfhgaaa
open Go.ChangeShapes Go.WideShapes Go.ChangeAt Go.RowKit Go.Deep Go.Joins
namespace Wt
open Fl
section
variable {H : Type} {enc : TypeId × Value → H} {w : World} {base : Nat} {spare : Nat → Bool} {held : Bool}
theorem open_u64s_cap {r : Reach} {b0 : Nat} {v : Value} {d : DataW H} {p : List MemPlace} (hv : Value.okWide Try.prog w r b0 22 v) (h : DataW.Trod enc Try.prog w base spare held 22 v d p) :
    ∃ l : List Nat, Slc w w.heap.size 1 v l.length (u64s l) ∧ (∀ x ∈ l, x < 2 * S) ∧ ∃ A c, v = .slice A l.length c ∧ l.length ≤ c ∧ c ≤ maxLen := by
  obtain ⟨l, hs, hg⟩ := open_u64s hv h
  refine ⟨l, hs, hg, ?_⟩
  obtain ⟨_, A, c, rfl, _⟩ := hs
  obtain ⟨fuel, hf⟩ := h
  rcases open_slice Try.underlying22 hf with ⟨hcs, _⟩ | ⟨a, len', cap', m, n, D, Pl, hcs, _, hl, hm, _⟩
  · simp [Value.cells] at hcs
    obtain ⟨rfl, h0, rfl⟩ := hcs
    exact ⟨_, _, rfl, by simp [h0], by unfold maxLen; omega⟩
  · simp [Value.cells] at hcs
    obtain ⟨rfl, h0, rfl⟩ := hcs
    exact ⟨_, _, rfl, by omega, hm⟩
end
end Wt
end Go.Proofs.Ytimalebcbfhgaaa
