import Derived.Test.YtgfokkkkkeaheaaW17d
import Derived.Test.YtgfokkkkkeaheaaOpen
namespace Go.Proofs.Ytgfokkkkkeaheaa.midsRaw
open Go.RowKit
theorem narGo_in (M : Int) (hM : 0 ≤ M) (e : Md.Ent) (l : List Md.Mid) (lo : Int) (h0 : 0 ≤ lo) (h1 : lo ≤ M) :
    0 ≤ (Md.narGo M e l lo).1 ∧ (Md.narGo M e l lo).1 ≤ M ∧ (Md.narGo M e l lo).2 ≤ M := by
  induction l generalizing lo with
  | nil => simp [Md.narGo]; omega
  | cons x l ih =>
    unfold Md.narGo
    split
    · exact ih _ (by omega) (by omega)
    · simp; omega
theorem walk (l : List Md.Mid) (v : Value) (many e0 e1 e2 : Int) (w : World) (h : Slc w w.heap.size 4 v l.length (Md.mids l)) (w1 : (Lit.int .i64 many).wf = true) :
    Calls Try.prog 10 #[v, .int .i64 many, .agg #[.int .u64 e0, .int .i64 e1, .int .i64 e2]] w fun e w' => e = .returned (.bool true) ∧ Below w.heap.size w w' := by
  obtain ⟨m0, m1⟩ := i64_of w1
  clear w1
  by_cases hl : 100 < l.length
  · obtain ⟨hlen, A, c, rfl, hcells⟩ := h
    clear hcells hlen
    go_enter Try.func10, Try.ntmps10
    go_wp2_with (go_at_call 20; refine (Md.middle_any _).mono ?_; rintro e w3 ⟨rfl, hb3⟩)
    go_ret
    exact ⟨rfl, (Below.alloc (Below.refl _ _) (Nat.le_refl _) _).trans (Below.mono (by assumption) (by simp))⟩
  · have hin := narGo_in (max many 0) (by omega) ⟨e0, e1, e2⟩ l 0 (by omega) (by omega)
    have hlo : 0 ≤ (Md.narrow l many ⟨e0, e1, e2⟩).1 ∧ (Md.narrow l many ⟨e0, e1, e2⟩).1 ≤ (Md.narrow l many ⟨e0, e1, e2⟩).2 ∧ (Md.narrow l many ⟨e0, e1, e2⟩).2 ≤ max many 0 := by
      unfold Md.narrow
      simp only
      omega
    have hsl := h.below (w' := w.alloc (.cells #[.int .u64 e0, .int .i64 e1, .int .i64 e2] 37)) (Below.alloc (Below.refl _ _) (Nat.le_refl _) _)
    have hc := Md.narrow_any l many e0 e1 e2 v (w.alloc (.cells #[.int .u64 e0, .int .i64 e1, .int .i64 e2] 37)) (hsl.more (by simp)) (by omega) ⟨by omega, by omega⟩
    obtain ⟨hlen, A, c, rfl, hcells⟩ := h
    clear hcells hlen hin hsl
    generalize Md.narrow l many ⟨e0, e1, e2⟩ = q at hc hlo
    obtain ⟨lo, hi⟩ := q
    obtain ⟨q1, q2, q3⟩ := hlo
    simp only at q1 q2 q3 hc
    have HC := Lib.hid hc
    clear hc
    go_enter Try.func10, Try.ntmps10
    go_wp2_with fail
    refine HC.out.mono ?_
    rintro e w1 ⟨rfl, hb1⟩
    go_wp2_with (go_at_call 20; refine (Md.middle_any _).mono ?_; rintro e w3 ⟨rfl, hb3⟩)
    go_ret
    exact ⟨rfl, (Below.alloc (Below.refl _ _) (Nat.le_refl _) _).trans (Below.mono (hb1.trans (Below.mono (by assumption) hb1.size)) (by simp))⟩
end Go.Proofs.Ytgfokkkkkeaheaa.midsRaw
