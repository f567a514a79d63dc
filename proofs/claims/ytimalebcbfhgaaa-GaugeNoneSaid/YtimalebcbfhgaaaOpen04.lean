/- Lists of bits as arguments: opened. -/
import Derived.Test.YtimalebcbfhgaaaW04b
import Derived.Test.YtimalebcbfhgaaaOpenSlc
namespace Go.Proofs.Ytimalebcbfhgaaa
open Go.ChangeShapes Go.WideShapes Go.ChangeAt Go.RowKit Go.Deep Go.Joins
namespace Wt
open Fl
theorem cells31 : Try.prog.cellsOf 31 = 1 := by kernel_rfl
theorem u64_nat {n : Int} (h : (Lit.int .u64 n).wf = true) : ∃ x : Nat, n = (x : Int) ∧ x < 2 * S := by
  have := u64_of h
  exact ⟨n.toNat, by omega, by unfold S; omega⟩
theorem flat_u64s (l : List Nat) : l.flatMap (fun x : Nat => [Value.int .u64 (x : Int)]) = u64s l := by
  unfold u64s
  induction l with
  | nil => rfl
  | cons a l ih => rw [List.flatMap_cons, ih]; rfl
section
variable {H : Type} {enc : TypeId × Value → H} {w : World} {base : Nat} {spare : Nat → Bool} {held : Bool}
theorem open_u64s {r : Reach} {b0 : Nat} {v : Value} {d : DataW H} {p : List MemPlace} (hv : Value.okWide Try.prog w r b0 22 v) (h : DataW.Trod enc Try.prog w base spare held 22 v d p) :
    ∃ l : List Nat, Slc w w.heap.size 1 v l.length (u64s l) ∧ ∀ x ∈ l, x < 2 * S := by
  obtain ⟨l, hs, hg⟩ := open_slc (fun x : Nat => [Value.int .u64 (x : Int)]) (fun x => x < 2 * S) 1 (fun _ => rfl) (by omega) Try.underlying22 cells31
    (fun fuel cs x h => by
      obtain ⟨n, q, _, wf⟩ := DataW.trod_int Try.underlying31 h
      obtain ⟨m, rfl, hm⟩ := u64_nat wf
      exact ⟨m, q, hm⟩) hv h
  refine ⟨l, ?_, hg⟩
  rw [flat_u64s] at hs
  exact hs
end
end Wt
end Go.Proofs.Ytimalebcbfhgaaa
