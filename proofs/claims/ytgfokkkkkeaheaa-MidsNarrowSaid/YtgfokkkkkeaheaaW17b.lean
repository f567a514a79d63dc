/- The walks of row, entries.Less and the reference Less. -/
import Derived.Test.YtgfokkkkkeaheaaRows
import Derived.Test.YtgfokkkkkeaheaaPlain17
import Derived.Test.YtgfokkkkkeaheaaMem
import Derived.WalkKit
import Derived.Handy
import Derived.Lib.Hide
namespace Go.Proofs.Ytgfokkkkkeaheaa
namespace Md
open Go.RowKit
theorem info37 : (Try.prog.info? 37).map (fun i => (i.zero, i.size, i.bytes)) = some (some (.agg #[.int .u64 0, .int .i64 0, .int .i64 0]), 3, 24) := by kernel_rfl

theorem row_any (n : Nat) (w : World) (hn : n ≤ 1000) :
    Calls Try.prog 28 #[.int .i64 (n : Int)] w fun e w' => ∃ v', e = .returned v' ∧ w'.ownsRow w.heap.size 37 3 v' n (ents (rowL n)) ∧ Below w.heap.size w w' := by
  obtain ⟨i37, hi, hz0, hz1, hz2⟩ := info_parts info37
  go_enter Try.func28, Try.ntmps28
  go_wp2_with fail
  go_loopw [3, 4] (fun o i wr => ∃ k : Nat, k ≤ n ∧ i = .int .i64 k ∧ wr.ownsRow w.heap.size 37 3 o k (ents (rowL k)) ∧ Below w.heap.size w wr) (fun _ i _ => n - (intOf i).toNat)
  case atStart => exact ⟨0, Nat.zero_le _, rfl, World.ownsRow_nil _ _ _ _, Below.refl _ _⟩
  case round =>
    obtain ⟨k, hk, rfl, hown, hbel⟩ := hrel
    have hbs := hbel.size
    by_cases hlt : k < n
    · have fin : ∀ (wa w1 : World) (v' : Value), w1.ownsRow w.heap.size 37 3 v' (k + 1) (ents (rowL k) ++ Ent.cells ⟨0, (k : Int), 0⟩) → wa.grownBy w1 u3.ownBlock → Below wr.heap.size wr wa →
            w1.ownsRow w.heap.size 37 3 v' (k + 1) (ents (rowL (k + 1))) ∧ Below w.heap.size w w1 := by
          intro wa w1 v' ho hg hwa
          rw [rowL_succ, ents_snoc]
          exact ⟨ho, own_below hown hbel hwa hbs hg⟩
      have FIN := Lib.hid fin
      clear fin
      go_wp2_with (at_builtin; refine wpList_append_own _ rfl (.tmp 10) (.tmp 13) 32 rfl w.heap.size 37 i37 _ 3 24 Try.underlying32 hi hz0 hz1 hz2 rfl (by decide) _ _ _ rfl (hown.alloc _) ⟨wr.heap.size, 0, none⟩ 1 1 (Ent.cells ⟨0, (k : Int), 0⟩) rfl rfl (by intro j u hj; match j, hj with | 0, hj => (cases hj; go_cell) | 1, hj => (cases hj; go_cell) | 2, hj => (cases hj; go_cell)) (by intro u hu; simp [Ent.cells] at hu; rcases hu with rfl | rfl | rfl <;> rfl) (by unfold maxLen; omega) (by omega) (by simp; omega) ?_; intro v' w1 hown' hgrow _)
      obtain ⟨R1, R2⟩ := FIN.out _ _ _ (by assumption) (by assumption) (by go_grown)
      go_roundw
      case rel => exact ⟨k + 1, by omega, by go_num, R1, R2⟩
      case measure => simp [intOf]; omega
    · go_wp2
      go_ret
      have hkl : k = n := by omega
      subst hkl
      exact ⟨_, rfl, hown, hbel⟩

def Ent.val (e : Ent) : Value := .agg #[.int .u64 e.h, .int .i64 e.v, .int .i64 e.p]

theorem less_any (a0 a1 a2 b0 b1 b2 : Int) (w : World) :
    Calls Try.prog 27 #[.agg #[.int .u64 a0, .int .i64 a1, .int .i64 a2], .agg #[.int .u64 b0, .int .i64 b1, .int .i64 b2]] w
      fun e w' => e = .returned (.bool (less ⟨a0, a1, a2⟩ ⟨b0, b1, b2⟩)) ∧ Below w.heap.size w w' := by
  unfold less
  by_cases h0 : a0 = b0
  · subst h0
    by_cases h1 : a1 = b1
    · subst h1
      go_enter Try.func27, Try.ntmps27
      go_wp2
      go_ret
      refine ⟨by simp, by go_grown⟩
    · have h1' : (a1 != b1) = true := by simpa using h1
      go_enter Try.func27, Try.ntmps27
      go_wp2
      go_ret
      refine ⟨by simp, by go_grown⟩
  · have h0' : (a0 != b0) = true := by simpa using h0
    go_enter Try.func27, Try.ntmps27
    go_wp2
    go_ret
    refine ⟨by simp, by go_grown⟩

theorem ref_less (a0 a1 a2 b0 b1 b2 : Int) (w : World) :
    Calls Try.prog 38 #[.agg #[.int .u64 a0, .int .i64 a1, .int .i64 a2], .agg #[.int .u64 b0, .int .i64 b1, .int .i64 b2]] w
      fun e w' => e = .returned (.bool (less ⟨a0, a1, a2⟩ ⟨b0, b1, b2⟩)) ∧ Below w.heap.size w w' := by
  unfold less
  by_cases g0 : a0 < b0
  · have h0 : a0 ≠ b0 := by omega
    go_enter Try.func38, Try.ntmps38
    go_wp2
    go_ret
    refine ⟨by simp, by go_grown⟩
  have d0 : decide (a0 < b0) = false := by simpa using g0
  by_cases h0 : a0 = b0
  · subst h0
    by_cases g1 : a1 < b1
    · have h1 : a1 ≠ b1 := by omega
      go_enter Try.func38, Try.ntmps38
      go_wp2
      go_ret
      refine ⟨by simp, by go_grown⟩
    have d1 : decide (a1 < b1) = false := by simpa using g1
    by_cases h1 : a1 = b1
    · subst h1
      go_enter Try.func38, Try.ntmps38
      go_wp2
      go_ret
      refine ⟨by simp, by go_grown⟩
    · have h1' : (a1 == b1) = false := by simpa using h1
      go_enter Try.func38, Try.ntmps38
      go_wp2
      go_ret
      refine ⟨by simp, by go_grown⟩
  · have h0' : (a0 == b0) = false := by simpa using h0
    go_enter Try.func38, Try.ntmps38
    go_wp2
    go_ret
    refine ⟨by simp, by go_grown⟩


end Md
end Go.Proofs.Ytgfokkkkkeaheaa
