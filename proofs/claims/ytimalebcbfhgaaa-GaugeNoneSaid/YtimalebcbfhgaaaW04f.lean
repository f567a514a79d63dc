/- The walk of the chapter's examples of weights. -/
import Derived.Test.YtimalebcbfhgaaaW04e
namespace Go.Proofs.Ytimalebcbfhgaaa
namespace Wt
open Go.RowKit Fl
theorem Slc.made {sz n c : Nat} {xs : List Value} (w : World) (t : TypeId) (h : xs.length = n * sz) : Slc (w.alloc (.cells xs.toArray t)) (w.heap.size + 1) sz (.slice (some ⟨w.heap.size, 0, none⟩) n c) n xs := by
  refine ⟨h, _, _, rfl, fun _ => ⟨_, _, rfl, by omega, fun j u hj => ?_⟩⟩
  rw [Nat.zero_add, World.cell?_alloc_mark]
  simpa using hj
theorem Slc.nil (w : World) (B sz : Nat) : Slc w B sz (.slice none 0 0) 0 [] := ⟨by simp, _, _, rfl, fun h => absurd h (by omega)⟩
theorem eLo3 : eLo [4607182418800017408, 0, 9223372036854775808] = 9223372036854775808 := by decide +kernel
theorem eHi3 : eHi [4607182418800017408, 0, 9223372036854775808] = 4607182418800017408 := by decide +kernel
theorem ends3 (w : World) : Calls Try.prog 16 #[.slice (some ⟨w.heap.size, 0, none⟩) 3 3] (w.alloc (.cells #[.float .f64 4607182418800017408, .float .f64 0, .float .f64 9223372036854775808] 26))
    fun e w' => e = .returned (.tuple #[.float .f64 9223372036854775808, .float .f64 4607182418800017408, .bool true]) ∧ Below w.heap.size w w' := by
  have h := ends_any [4607182418800017408, 0, 9223372036854775808] (.slice (some ⟨w.heap.size, 0, none⟩) 3 3) (w.alloc (.cells #[.float .f64 4607182418800017408, .float .f64 0, .float .f64 9223372036854775808] 26)) ((Slc.made w 26 (by rfl)).more (by simp)) (by decide) (by decide +kernel)
  refine h.mono fun e w' ⟨he, hb⟩ => ⟨?_, ((Below.refl _ w).alloc (Nat.le_refl _) _).trans (hb.mono (by simp))⟩
  rw [he]
  unfold endsV
  rw [eLo3, eHi3]
  rfl
theorem ends0 (w : World) : Calls Try.prog 16 #[.slice none 0 0] w fun e w' => e = .returned (.tuple #[.float .f64 0, .float .f64 0, .bool false]) ∧ Below w.heap.size w w' :=
  ends_any [] _ w (Slc.nil _ _ _) (by decide) (by decide)
theorem key_at (x k : Nat) (hx : x < 2 * S) (h : wkey x = k) (w : World) : Calls Try.prog 27 #[.float .f64 x] w fun e w' => e = .returned (.int .u64 (k : Int)) ∧ w = w' := by subst h; exact key_any x hx w
theorem class_at (x k : Nat) (hx : x < 2 * S) (h : cls x = k) (w : World) : Calls Try.prog 25 #[.float .f64 x] w fun e w' => e = .returned (.int .i64 (k : Int)) ∧ w = w' := by subst h; exact class_any x hx w
theorem less_at (x y : Nat) (b : Bool) (hx : x < 2 * S) (hy : y < 2 * S) (h : lessB x y = b) (w : World) : Calls Try.prog 24 #[.float .f64 x, .float .f64 y] w fun e w' => e = .returned (.bool b) ∧ w = w' := by subst h; exact less_any x y hx hy w
theorem same_at (x y : Nat) (b : Bool) (h : sameB x y = b) (w : World) : Calls Try.prog 26 #[.float .f64 x, .float .f64 y] w fun e w' => e = .returned (.bool b) ∧ w = w' := by subst h; exact same_any x y w
theorem refsame_at (x y : Nat) (b : Bool) (hx : x < 2 * S) (hy : y < 2 * S) (h : sameB x y = b) (w : World) : Calls Try.prog 18 #[.float .f64 x, .float .f64 y] w fun e w' => e = .returned (.bool b) ∧ w = w' := by subst h; exact refsame_any x y hx hy w
theorem IsSum.at_some {l : List Nat} {x c : Nat} (h : IsSum l x) (e : fsum l = some c) : x = c := by
  have := h.2
  rw [e] at this
  exact this
theorem IsSum.at_none {l : List Nat} {x : Nat} (h : IsSum l x) (e : fsum l = none) : nan x = true := by
  have := h.2
  rw [e] at this
  exact this
theorem fsum3 : fsum [9214871658872686752, 9214871658872686752, 18438243695727462560] = some 9218868437227405312 := by decide +kernel
theorem sum3 (w : World) : Calls Try.prog 20 #[.slice (some ⟨w.heap.size, 0, none⟩) 3 3] (w.alloc (.cells #[.float .f64 9214871658872686752, .float .f64 9214871658872686752, .float .f64 18438243695727462560] 26))
    fun e w' => e = .returned (.float .f64 9218868437227405312) ∧ Below w.heap.size w w' := by
  have h := sum_any [9214871658872686752, 9214871658872686752, 18438243695727462560] (.slice (some ⟨w.heap.size, 0, none⟩) 3 3) (w.alloc (.cells #[.float .f64 9214871658872686752, .float .f64 9214871658872686752, .float .f64 18438243695727462560] 26)) ((Slc.made w 26 (by rfl)).more (by simp)) (by decide)
  refine h.mono fun e w' ⟨x, he, hx, hb⟩ => ⟨?_, ((Below.refl _ w).alloc (Nat.le_refl _) _).trans (hb.mono (by simp))⟩
  rw [he, hx.at_some fsum3]
theorem sum0 (w : World) : Calls Try.prog 20 #[.slice none 0 0] w fun e w' => e = .returned (.float .f64 0) ∧ Below w.heap.size w w' := by
  refine (sum_any [] _ w (Slc.nil _ _ _) (by decide)).mono fun e w' ⟨x, he, hx, hb⟩ => ⟨?_, hb⟩
  rw [he, hx.at_some (show fsum [] = some 0 from rfl)]
theorem weighed_any (w : World) : Calls Try.prog 14 #[] w fun e w' => e = .returned (.bool true) ∧ Below w.heap.size w w' := by
  have q1 : (FloatKind.f64.format.order 4607182418800017408 4607182418800017408 == some Ordering.eq) = true := by decide +kernel
  have q2 : (FloatKind.f64.format.order 0 0 == some Ordering.eq) = true := by decide +kernel
  go_enter Try.func14, Try.ntmps14
  go_wp2_with fail
  refine (minus_any _).mono ?_; rintro e w' ⟨rfl, rfl⟩
  go_wp2_with fail
  refine (ends3 _).mono ?_; rintro e w1 ⟨rfl, hb1⟩
  go_wp2_with fail
  refine (ends0 _).mono ?_; rintro e w2 ⟨rfl, hb2⟩
  have hb12 := hb1.trans (hb2.mono hb1.size)
  clear hb1 hb2
  go_wp2_with fail
  refine (key_at _ 9223372036854775808 (by decide) (by decide +kernel) _).mono ?_; rintro e w' ⟨rfl, rfl⟩
  go_wp2_with fail
  refine (minus_any _).mono ?_; rintro e w' ⟨rfl, rfl⟩
  go_wp2_with fail
  refine (key_at _ 9223372036854775807 (by decide) (by decide +kernel) _).mono ?_; rintro e w' ⟨rfl, rfl⟩
  go_wp2_with fail
  refine (key_at _ 13830554455654793216 (by decide) (by decide +kernel) _).mono ?_; rintro e w' ⟨rfl, rfl⟩
  go_wp2_with fail
  refine (class_at _ 2 (by decide) (by decide +kernel) _).mono ?_; rintro e w' ⟨rfl, rfl⟩
  go_wp2_with fail
  refine (minus_any _).mono ?_; rintro e w' ⟨rfl, rfl⟩
  go_wp2_with fail
  refine (class_at _ 3 (by decide) (by decide +kernel) _).mono ?_; rintro e w' ⟨rfl, rfl⟩
  go_wp2_with fail
  refine (minus_any _).mono ?_; rintro e w' ⟨rfl, rfl⟩
  go_wp2_with fail
  refine (less_at _ _ true (by decide) (by decide) (by decide +kernel) _).mono ?_; rintro e w' ⟨rfl, rfl⟩
  go_wp2_with fail
  refine (sum3 _).mono ?_; rintro e w3 ⟨rfl, hb3⟩
  have hb13 := hb12.trans (hb3.mono hb12.size)
  clear hb12 hb3
  go_wp2_with fail
  refine (class_at _ 5 (by decide) (by decide +kernel) _).mono ?_; rintro e w' ⟨rfl, rfl⟩
  go_wp2_with fail
  refine (sum0 _).mono ?_; rintro e w4 ⟨rfl, hb4⟩
  have hb14 := hb13.trans (hb4.mono hb13.size)
  clear hb13 hb4
  go_wp2_with fail
  refine (refsame_at _ _ true (by decide) (by decide) (by decide +kernel) _).mono ?_; rintro e w' ⟨rfl, rfl⟩
  go_wp2_with fail
  refine (minus_any _).mono ?_; rintro e w' ⟨rfl, rfl⟩
  go_wp2_with fail
  refine (refsame_at _ _ true (by decide) (by decide) (by decide +kernel) _).mono ?_; rintro e w' ⟨rfl, rfl⟩
  go_wp2_with fail
  go_ret
  exact ⟨rfl, hb14⟩
end Wt
end Go.Proofs.Ytimalebcbfhgaaa
