/- The walks of the chapter's examples of the rates. -/
import Derived.Test.YtgfokkkkkeaheaaW05
namespace Go.Proofs.Ytgfokkkkkeaheaa
namespace Rt
open Go.RowKit Fl
theorem frombits_at (x : Int) (n : Nat) (h : x.toNat = n) (w : World) : (callFunc 29 #[.int .u64 x]).run Try.prog w = .ok (.value (.float .f64 n)) w := by
  subst h
  exact frombits x w
theorem nan_any (w : World) : Calls Try.prog 40 #[] w fun e w' => e = .returned (.float .f64 9221120237041090561) ∧ w = w' := by
  have h := frombits_at 9221120237041090561 9221120237041090561 rfl
  go_enter Try.func40, Try.ntmps40
  go_wp2
  go_ret
  exact ⟨rfl, rfl⟩
theorem inf_pos (w : World) : Calls Try.prog 41 #[.int .i64 1] w fun e w' => e = .returned (.float .f64 9218868437227405312) ∧ w = w' := by
  have h := frombits_at 9218868437227405312 9218868437227405312 rfl
  go_enter Try.func41, Try.ntmps41
  go_wp2
  go_ret
  exact ⟨rfl, rfl⟩
theorem inf_neg (w : World) : Calls Try.prog 41 #[.int .i64 (-1)] w fun e w' => e = .returned (.float .f64 18442240474082181120) ∧ w = w' := by
  have h := frombits_at 18442240474082181120 18442240474082181120 rfl
  go_enter Try.func41, Try.ntmps41
  go_wp2
  go_ret
  exact ⟨rfl, rfl⟩
theorem probes_at (x r : Nat) (h : prob x = r) (w : World) : Calls Try.prog 30 #[.float .f64 x] w fun e w' => e = .returned (.int .i64 (r : Int)) ∧ w = w' := by
  subst h
  exact probes_any x w
theorem p1 (w : World) : Calls Try.prog 30 #[.float .f64 4607182418800017408] w fun e w' => e = .returned (.int .i64 1) ∧ w = w' := probes_at _ 1 (by decide +kernel) w
theorem p2 (w : World) : Calls Try.prog 30 #[.float .f64 4602678819172646912] w fun e w' => e = .returned (.int .i64 1) ∧ w = w' := probes_at _ 1 (by decide +kernel) w
theorem p3 (w : World) : Calls Try.prog 30 #[.float .f64 4602498675187552092] w fun e w' => e = .returned (.int .i64 2) ∧ w = w' := probes_at _ 2 (by decide +kernel) w
theorem p4 (w : World) : Calls Try.prog 30 #[.float .f64 4576918229304087675] w fun e w' => e = .returned (.int .i64 7) ∧ w = w' := probes_at _ 7 (by decide +kernel) w
theorem p5 (w : World) : Calls Try.prog 30 #[.float .f64 9221120237041090561] w fun e w' => e = .returned (.int .i64 4) ∧ w = w' := probes_at _ 4 (by decide +kernel) w
theorem p6 (w : World) : Calls Try.prog 30 #[.float .f64 18442240474082181120] w fun e w' => e = .returned (.int .i64 16) ∧ w = w' := probes_at _ 16 (by decide +kernel) w
theorem p7 (w : World) : Calls Try.prog 30 #[.float .f64 9218868437227405312] w fun e w' => e = .returned (.int .i64 1) ∧ w = w' := probes_at _ 1 (by decide +kernel) w
theorem p8 (w : World) : Calls Try.prog 30 #[.float .f64 9223372036854775808] w fun e w' => e = .returned (.int .i64 16) ∧ w = w' := probes_at _ 16 (by decide +kernel) w
theorem pages_at (n k r : Int) (h : pg n k = r) (w : World) (hn : -9223372036854775808 ≤ n ∧ n ≤ 9223372036854775807) (hk : -9223372036854775808 ≤ k ∧ k ≤ 9223372036854775807) :
    Calls Try.prog 32 #[.int .i64 n, .int .i64 k] w fun e w' => e = .returned (.int .i64 r) ∧ w = w' := by
  subst h
  exact pages_any n k w hn hk

theorem rated_any (w : World) : Calls Try.prog 34 #[] w fun e w' => e = .returned (.bool true) ∧ w = w' := by
  have hf := frombits_at 9223372036854775808 9223372036854775808 rfl
  go_enter Try.func34, Try.ntmps34
  go_wp2_with fail
  refine (p1 _).mono ?_; rintro e w' ⟨rfl, rfl⟩
  go_wp2_with fail
  refine (p2 _).mono ?_; rintro e w' ⟨rfl, rfl⟩
  go_wp2_with fail
  refine (p3 _).mono ?_; rintro e w' ⟨rfl, rfl⟩
  go_wp2_with fail
  refine (p4 _).mono ?_; rintro e w' ⟨rfl, rfl⟩
  go_wp2_with fail
  refine (nan_any _).mono ?_; rintro e w' ⟨rfl, rfl⟩
  go_wp2_with fail
  refine (p5 _).mono ?_; rintro e w' ⟨rfl, rfl⟩
  go_wp2_with fail
  refine (inf_neg _).mono ?_; rintro e w' ⟨rfl, rfl⟩
  go_wp2_with fail
  refine (p6 _).mono ?_; rintro e w' ⟨rfl, rfl⟩
  go_wp2_with fail
  refine (inf_pos _).mono ?_; rintro e w' ⟨rfl, rfl⟩
  go_wp2_with fail
  refine (p7 _).mono ?_; rintro e w' ⟨rfl, rfl⟩
  go_wp2_with fail
  refine (p8 _).mono ?_; rintro e w' ⟨rfl, rfl⟩
  go_wp2_with fail
  refine (pages_at 0 4 1 (by decide) _ (by decide) (by decide)).mono ?_; rintro e w' ⟨rfl, rfl⟩
  go_wp2_with fail
  refine (pages_at 80 4 1 (by decide) _ (by decide) (by decide)).mono ?_; rintro e w' ⟨rfl, rfl⟩
  go_wp2_with fail
  refine (pages_at 81 4 2 (by decide) _ (by decide) (by decide)).mono ?_; rintro e w' ⟨rfl, rfl⟩
  go_wp2_with fail
  refine (pages_at (-1) (-1) 1 (by decide) _ (by decide) (by decide)).mono ?_; rintro e w' ⟨rfl, rfl⟩
  go_wp2_with fail
  go_ret
  exact ⟨rfl, rfl⟩
end Rt
end Go.Proofs.Ytgfokkkkkeaheaa
