/- The walks of the laws of weights on one number, and on two. -/
import Derived.Test.YtimalebcbfhgaaaW04f
import Derived.Test.YtimalebcbfhgaaaOpen04
namespace Go.Proofs.Ytimalebcbfhgaaa
open Go.RowKit Fl Wt
namespace weightsBack
theorem walk (a0 : Int) (w0 : (Lit.int .u64 a0).wf = true) (w : World) :
    Calls Try.prog 7 #[.int .u64 a0] w fun e w' => e = .returned (.bool true) ∧ Below w.heap.size w w' := by
  obtain ⟨x, rfl, hx⟩ := u64_nat w0
  clear w0
  have hf := frombits (x : Int)
  rw [Int.toNat_natCast] at hf
  have e1 := Lib.hid (wkey_wback hx)
  have e2 := Lib.hid (wback_wkey hx)
  have hk := wkey_lt hx
  have hb := wback_lt hx
  have hfb := f64bits x
  go_enter Try.func7, Try.ntmps7
  go_wp2_with fail
  refine (back_any _ hx _).mono ?_; rintro e w' ⟨rfl, rfl⟩
  go_wp2_with fail
  refine (key_any _ hb _).mono ?_; rintro e w' ⟨rfl, rfl⟩
  rw [e1.out]
  go_wp2_with fail
  refine (key_any _ hx _).mono ?_; rintro e w' ⟨rfl, rfl⟩
  go_wp2_with fail
  refine (back_any _ hk _).mono ?_; rintro e w' ⟨rfl, rfl⟩
  rw [e2.out]
  go_wp2_with fail
  refine (weighed_any _).mono ?_; rintro e w' ⟨rfl, hbl⟩
  go_wp2_with fail
  go_ret
  exact ⟨rfl, hbl⟩
end weightsBack
namespace weightsTell
theorem walk (a0 a1 : Int) (w0 : (Lit.int .u64 a0).wf = true) (w1 : (Lit.int .u64 a1).wf = true) (w : World) :
    Calls Try.prog 8 #[.int .u64 a0, .int .u64 a1] w fun e w' => e = .returned (.bool true) ∧ Below w.heap.size w w' := by
  obtain ⟨x, rfl, hx⟩ := u64_nat w0
  obtain ⟨y, rfl, hy⟩ := u64_nat w1
  clear w0 w1
  have hf := frombits (x : Int)
  have hg := frombits (y : Int)
  rw [Int.toNat_natCast] at hf hg
  have hb := wback_lt hx
  have s1 : sameB (wback x) (wback x) = true := by unfold sameB; simp
  have s2 : sameB x x = true := by unfold sameB; simp
  have s3 : (sameB x y == ((x : Int) == (y : Int))) = true := by
    rw [beq_iff_eq]
    unfold sameB
    rw [Bool.eq_iff_iff]
    simp only [beq_iff_eq, decide_eq_true_eq]
    omega
  have s4 : (lessB x y == decide (wkey x < wkey y)) = true := by unfold lessB; simp
  go_enter Try.func8, Try.ntmps8
  go_wp2_with fail
  refine (key_any _ hx _).mono ?_; rintro e w' ⟨rfl, rfl⟩
  go_wp2_with fail
  refine (refkey_any _ hx _).mono ?_; rintro e w' ⟨rfl, rfl⟩
  go_wp2_with fail
  refine (back_any _ hx _).mono ?_; rintro e w' ⟨rfl, rfl⟩
  go_wp2_with fail
  refine (refback_any _ hx _).mono ?_; rintro e w' ⟨rfl, rfl⟩
  go_wp2_with fail
  refine (refsame_any _ _ hb hb _).mono ?_; rintro e w' ⟨rfl, rfl⟩
  go_wp2_with fail
  refine (class_any _ hx _).mono ?_; rintro e w' ⟨rfl, rfl⟩
  go_wp2_with fail
  refine (refclass_any _ hx _).mono ?_; rintro e w' ⟨rfl, rfl⟩
  go_wp2_with fail
  refine (same_any _ _ _).mono ?_; rintro e w' ⟨rfl, rfl⟩
  go_wp2_with fail
  refine (same_any _ _ _).mono ?_; rintro e w' ⟨rfl, rfl⟩
  go_wp2_with fail
  refine (less_any _ _ hx hy _).mono ?_; rintro e w' ⟨rfl, rfl⟩
  go_wp2_with fail
  refine (refkey_any _ hx _).mono ?_; rintro e w' ⟨rfl, rfl⟩
  go_wp2_with fail
  refine (refkey_any _ hy _).mono ?_; rintro e w' ⟨rfl, rfl⟩
  go_wp2_with fail
  refine (weighed_any _).mono ?_; rintro e w' ⟨rfl, hbl⟩
  go_wp2_with fail
  go_ret
  exact ⟨rfl, hbl⟩
end weightsTell
end Go.Proofs.Ytimalebcbfhgaaa
