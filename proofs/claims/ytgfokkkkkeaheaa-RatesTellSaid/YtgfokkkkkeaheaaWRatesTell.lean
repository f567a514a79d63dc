import Derived.Test.YtgfokkkkkeaheaaW05b
import Derived.Test.YtgfokkkkkeaheaaOpen
namespace Go.Proofs.Ytgfokkkkkeaheaa.ratesTell
open Go.RowKit Rt
theorem walk (a0 a1 a2 : Int) (_ : (Lit.int .u64 a0).wf = true) (w1 : (Lit.int .i64 a1).wf = true) (w2 : (Lit.int .i64 a2).wf = true) (w : World) :
    Calls Try.prog 12 #[.int .u64 a0, .int .i64 a1, .int .i64 a2] w fun e w' => e = .returned (.bool true) ∧ Below w.heap.size w w' := by
  have h1 := i64_of w1
  have h2 := i64_of w2
  clear w1 w2
  have hf := frombits_at a0 a0.toNat rfl
  generalize a0.toNat = f at hf
  go_enter Try.func12, Try.ntmps12
  go_wp2_with fail
  refine (probes_any _ _).mono ?_; rintro e w' ⟨rfl, rfl⟩
  go_wp2_with fail
  refine (ref_probes _ _).mono ?_; rintro e w' ⟨rfl, rfl⟩
  go_wp2_with fail
  refine (pages_any _ _ _ h1 h2).mono ?_; rintro e w' ⟨rfl, rfl⟩
  go_wp2_with fail
  refine (ref_pages _ _ _ h1 h2).mono ?_; rintro e w' ⟨rfl, rfl⟩
  go_wp2_with fail
  refine (rated_any _).mono ?_; rintro e w' ⟨rfl, rfl⟩
  go_wp2_with fail
  go_ret
  exact ⟨rfl, Below.refl _ _⟩
end Go.Proofs.Ytgfokkkkkeaheaa.ratesTell
