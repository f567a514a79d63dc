/- The walks of gauge: Same, the reference's Same, like, g. -/
import Derived.Test.YtimalebcbfhgaaaW28c
namespace Go.Proofs.Ytimalebcbfhgaaa
namespace Wt
open Go.RowKit Fl
attribute [local go_sem] run_store_number
def sumB (s t : Nat) : Bool := sameB s t || (nan s && nan t)
def gsameB (c1 n1 : Int) (s1 a1 b1 : Nat) (c2 n2 : Int) (s2 a2 b2 : Nat) : Bool := (c1 == c2) && (n1 == n2) && sumB s1 s2 && sameB a1 a2 && sameB b1 b2
set_option maxHeartbeats 4000000 in
theorem gsame_any (c1 n1 : Int) (s1 a1 b1 : Nat) (c2 n2 : Int) (s2 a2 b2 : Nat) (h1 : s1 < 2 * S) (h2 : s2 < 2 * S) (w : World) :
    Calls Try.prog 37 #[.agg #[.int .i64 c1, .int .i64 n1, .float .f64 s1, .float .f64 a1, .float .f64 b1], .agg #[.int .i64 c2, .int .i64 n2, .float .f64 s2, .float .f64 a2, .float .f64 b2]] w
      fun e w' => e = .returned (.bool (gsameB c1 n1 s1 a1 b1 c2 n2 s2 a2 b2)) ∧ Below w.heap.size w w' := by
  unfold gsameB sumB
  have k1 := cls_nan s1
  have k2 := cls_nan s2
  obtain ⟨x1, e1⟩ : ∃ x, (c1 == c2) = x := ⟨_, rfl⟩
  obtain ⟨x2, e2⟩ : ∃ x, (n1 == n2) = x := ⟨_, rfl⟩
  obtain ⟨x3, e3⟩ : ∃ x, sameB s1 s2 = x := ⟨_, rfl⟩
  obtain ⟨x4, e4⟩ : ∃ x, sameB a1 a2 = x := ⟨_, rfl⟩
  obtain ⟨x5, e5⟩ : ∃ x, sameB b1 b2 = x := ⟨_, rfl⟩
  rw [e1, e2, e3, e4, e5]
  generalize nan s1 = x6 at k1 ⊢
  generalize nan s2 = x7 at k2 ⊢
  go_enter Try.func37, Try.ntmps37
  go_wp2_with (first
    | (go_at_call 26; (with_reducible refine (same_any _ _ _).mono ?_); rintro e w' ⟨rfl, rfl⟩)
    | (go_at_call 25; (with_reducible refine (class_any _ (by assumption) _).mono ?_); rintro e w' ⟨rfl, rfl⟩))
  all_goals
    go_ret
    exact ⟨by simp [*], by go_grown⟩

set_option maxHeartbeats 4000000 in
theorem refgsame_any (c1 n1 : Int) (s1 a1 b1 : Nat) (c2 n2 : Int) (s2 a2 b2 : Nat) (h1 : s1 < 2 * S) (h2 : s2 < 2 * S) (h3 : a1 < 2 * S) (h4 : a2 < 2 * S) (h5 : b1 < 2 * S) (h6 : b2 < 2 * S) (w : World) :
    Calls Try.prog 40 #[.agg #[.int .i64 c1, .int .i64 n1, .float .f64 s1, .float .f64 a1, .float .f64 b1], .agg #[.int .i64 c2, .int .i64 n2, .float .f64 s2, .float .f64 a2, .float .f64 b2]] w
      fun e w' => e = .returned (.bool (gsameB c1 n1 s1 a1 b1 c2 n2 s2 a2 b2)) ∧ Below w.heap.size w w' := by
  unfold gsameB sumB
  have k1 : (FloatKind.f64.format.order s1 s1 != some .eq) = nan s1 := neq_self s1
  have k2 : (FloatKind.f64.format.order s2 s2 != some .eq) = nan s2 := neq_self s2
  obtain ⟨x1, e1⟩ : ∃ x, (c1 != c2) = x := ⟨_, rfl⟩
  obtain ⟨x2, e2⟩ : ∃ x, (n1 != n2) = x := ⟨_, rfl⟩
  obtain ⟨x3, e3⟩ : ∃ x, sameB s1 s2 = x := ⟨_, rfl⟩
  obtain ⟨x4, e4⟩ : ∃ x, sameB a1 a2 = x := ⟨_, rfl⟩
  obtain ⟨x5, e5⟩ : ∃ x, sameB b1 b2 = x := ⟨_, rfl⟩
  have f1 : (c1 == c2) = !x1 := by rw [← e1]; unfold bne; rw [Bool.not_not]
  have f2 : (n1 == n2) = !x2 := by rw [← e2]; unfold bne; rw [Bool.not_not]
  rw [f1, f2, e3, e4, e5]
  generalize nan s1 = x6 at k1 ⊢
  generalize nan s2 = x7 at k2 ⊢
  clear f1 f2
  go_enter Try.func40, Try.ntmps40
  go_wp2_with (first
    | (go_at_call 18; (with_reducible refine (refsame_any _ _ (by assumption) (by assumption) _).mono ?_); rintro e w' ⟨rfl, rfl⟩))
  all_goals
    go_ret
    exact ⟨by simp_all, by go_grown⟩
theorem like28_any (c1 n1 : Int) (s1 a1 b1 : Nat) (c2 n2 : Int) (s2 a2 b2 : Nat) (h1 : s1 < 2 * S) (h2 : s2 < 2 * S) (h3 : a1 < 2 * S) (h4 : a2 < 2 * S) (h5 : b1 < 2 * S) (h6 : b2 < 2 * S) (w : World) :
    Calls Try.prog 34 #[.agg #[.int .i64 c1, .int .i64 n1, .float .f64 s1, .float .f64 a1, .float .f64 b1], .agg #[.int .i64 c2, .int .i64 n2, .float .f64 s2, .float .f64 a2, .float .f64 b2]] w
      fun e w' => e = .returned (.bool (gsameB c1 n1 s1 a1 b1 c2 n2 s2 a2 b2)) ∧ Below w.heap.size w w' := by
  go_enter Try.func34, Try.ntmps34
  go_wp2_with fail
  refine (refgsame_any _ _ _ _ _ _ _ _ _ _ h1 h2 h3 h4 h5 h6 _).mono ?_; rintro e w1 ⟨rfl, hb⟩
  go_wp2_with fail
  go_ret
  exact ⟨rfl, (((Below.refl _ _).alloc (Nat.le_refl _) _).alloc (by simp) _).trans (hb.mono (by simp; omega))⟩
end Wt
end Go.Proofs.Ytimalebcbfhgaaa
