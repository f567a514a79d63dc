/- The walks of Same and of mids.Narrow. -/
import Derived.Test.YtgfokkkkkeaheaaW17a
import Derived.Test.YtgfokkkkkeaheaaW17b
import Derived.RegionTactic
import Derived.Deep.QuietTactic
import Derived.BigQuiet
import Derived.WalkMore
import Derived.Deep.LoopGhost
namespace Go.Proofs.Ytgfokkkkkeaheaa
namespace Md
open Go.RowKit
theorem same_eq (l : List Mid) (v v2 : Value) (w : World) (h1 : Slc w w.heap.size 4 v l.length (mids l)) (h2 : Slc w w.heap.size 4 v2 l.length (mids l)) (hn : l.length ≤ 1000) :
    Calls Try.prog 21 #[v, v2] w fun e w' => e = .returned (.bool true) ∧ Below w.heap.size w w' := by
  obtain ⟨hlen, A, c, rfl, hcells⟩ := h1
  obtain ⟨hlen2, A2, c2, rfl, hcells2⟩ := h2
  have HC := Lib.hid hcells
  have HC2 := Lib.hid hcells2
  clear hcells hcells2 hlen hlen2
  have hne : ((l.length : Int) != (l.length : Int)) = false := by simp
  go_enter Try.func21, Try.ntmps21
  go_wp2_with fail
  go_loopw [5] (fun i wr => ∃ k : Nat, k ≤ l.length ∧ i = .int .i64 k ∧ Below w.heap.size w wr) (fun i _ => l.length - (intOf i).toNat)
  case atStart => exact ⟨0, Nat.zero_le _, rfl, Below.refl _ _⟩
  case round =>
    obtain ⟨k, hk, rfl, hbel⟩ := hrel
    by_cases hlt : k < l.length
    · obtain ⟨b, off, rfl, hb, hcell⟩ := HC.out (by omega)
      obtain ⟨b2, off2, rfl, hb2, hcell2⟩ := HC2.out (by omega)
      obtain ⟨c0, c1, c2, c3⟩ := mid_cells (w := wr) (fun j u h => (hbel.cell (p := ⟨b, off + j, none⟩) hb).trans (hcell j u h)) k hlt
      obtain ⟨d0, d1, d2, d3⟩ := mid_cells (w := wr) (fun j u h => (hbel.cell (p := ⟨b2, off2 + j, none⟩) hb2).trans (hcell2 j u h)) k hlt
      obtain ⟨m, hm⟩ : ∃ m, l[k] = m := ⟨_, rfl⟩
      rw [hm] at c0 c1 c2 c3 d0 d1 d2 d3
      have hi1 : (0 : Int) ≤ (k : Int) ∧ (k : Int) < (l.length : Int) := by omega
      clear hm hcell hcell2 HC HC2
      go_wp2_with fail
      go_region
      go_wp2_with fail
      go_roundw
      case rel => exact ⟨k + 1, by omega, by go_num, by go_grown⟩
      case measure => simp [intOf]; omega
    · go_wp2
      go_ret
      exact ⟨rfl, hbel⟩


theorem narrow_any (l : List Mid) (many e0 e1 e2 : Int) (v : Value) (w : World) (h1 : Slc w w.heap.size 4 v l.length (mids l)) (hn : l.length ≤ 1000) (hm : -9223372036854775808 ≤ many ∧ many ≤ 9223372036854775807) :
    Calls Try.prog 25 #[v, .int .i64 many, .agg #[.int .u64 e0, .int .i64 e1, .int .i64 e2]] w fun e w' => e = .returned (.tuple #[.int .i64 (narrow l many ⟨e0, e1, e2⟩).1, .int .i64 (narrow l many ⟨e0, e1, e2⟩).2]) ∧ Below w.heap.size w w' := by
  obtain ⟨hlen, A, c, rfl, hcells⟩ := h1
  have HC := Lib.hid hcells
  clear hcells hlen
  obtain ⟨M, hM⟩ : ∃ M, max many 0 = M := ⟨_, rfl⟩
  have hM0 : 0 ≤ M ∧ M ≤ 9223372036854775807 := by omega
  have HM := Lib.hid hM
  have z0 : (w.alloc (.cells #[.int .u64 e0, .int .i64 e1, .int .i64 e2] 37)).cell? ⟨w.heap.size, 0, none⟩ = some (.int .u64 e0) := by go_cell
  have z1 : (w.alloc (.cells #[.int .u64 e0, .int .i64 e1, .int .i64 e2] 37)).cell? ⟨w.heap.size, 1, none⟩ = some (.int .i64 e1) := by go_cell
  have z2 : (w.alloc (.cells #[.int .u64 e0, .int .i64 e1, .int .i64 e2] 37)).cell? ⟨w.heap.size, 2, none⟩ = some (.int .i64 e2) := by go_cell
  have hW : Below w.heap.size w (w.alloc (.cells #[.int .u64 e0, .int .i64 e1, .int .i64 e2] 37)) := by go_grown
  have hWs : (w.alloc (.cells #[.int .u64 e0, .int .i64 e1, .int .i64 e2] 37)).heap.size = w.heap.size + 1 := by simp
  go_enter Try.func25, Try.ntmps25
  go_wp2_with fail
  go_step3
  go_wp2_with fail
  go_step3
  go_wp2_with fail
  clear hM
  generalize hwo : w.alloc (.cells #[.int .u64 e0, .int .i64 e1, .int .i64 e2] 37) = wo at z0 z1 z2 hW hWs ⊢
  clear hwo
  go_loopw [6, 7, 9, 10, 16] (fun lo hi a b i wr => ∃ (k : Nat) (x : Int), k ≤ l.length ∧ i = .int .i64 k ∧ lo = .int .i64 x ∧ hi = .int .i64 M ∧ 0 ≤ x ∧ x ≤ M ∧ narGo M ⟨e0, e1, e2⟩ (l.drop k) x = narGo M ⟨e0, e1, e2⟩ l 0 ∧ Below (w.heap.size + 1) wo wr) (fun lo hi a b i _ => l.length - (intOf i).toNat)
  case atStart => exact ⟨0, 0, Nat.zero_le _, rfl, rfl, rfl, by omega, by omega, rfl, Below.refl _ _⟩
  case round =>
    obtain ⟨k, x, hk, rfl, rfl, rfl, hx0, hx1, hgo, hbel⟩ := hrel
    have hbs := hbel.size
    by_cases hlt : k < l.length
    · obtain ⟨b, off, rfl, hb, hcell⟩ := HC.out (by omega)
      have hb1 : b < w.heap.size + 1 := by omega
      obtain ⟨c0, c1, c2, c3⟩ := mid_cells (w := wr) (fun j u h => (hbel.cell (p := ⟨b, off + j, none⟩) hb1).trans ((hW.cell (p := ⟨b, off + j, none⟩) hb).trans (hcell j u h))) k hlt
      have y0 : wr.cell? ⟨w.heap.size, 0, none⟩ = some (.int .u64 e0) := (hbel.cell (p := ⟨w.heap.size, 0, none⟩) (by simp)).trans z0
      have y1 : wr.cell? ⟨w.heap.size, 1, none⟩ = some (.int .i64 e1) := (hbel.cell (p := ⟨w.heap.size, 1, none⟩) (by simp)).trans z1
      have y2 : wr.cell? ⟨w.heap.size, 2, none⟩ = some (.int .i64 e2) := (hbel.cell (p := ⟨w.heap.size, 2, none⟩) (by simp)).trans z2
      clear z0 z1 z2
      obtain ⟨m, hm⟩ : ∃ m, l[k] = m := ⟨_, rfl⟩
      rw [hm] at c0 c1 c2 c3
      have hstep := narGo_drop M ⟨e0, e1, e2⟩ l k hlt x
      rw [hm, hgo] at hstep
      have HS := Lib.hid hstep
      clear hm hcell HC hgo hstep
      have hws : w.heap.size < wr.heap.size := by omega
      go_wp2_with (go_at_call 27; refine (less_any _ _ _ _ _ _ _).mono ?_; rintro e w' ⟨rfl, hb2⟩)
      · have hl : less m.e ⟨e0, e1, e2⟩ = true := by assumption
        go_roundw
        case rel =>
          refine ⟨k + 1, _, by omega, by go_num, rfl, rfl, by omega, by omega, ?_, (hbel.alloc (by omega) _).trans (hb2.mono (by simp; omega))⟩
          have h := HS.out
          rw [if_pos hl] at h
          rw [h]
          congr 1
          omega
        case measure => simp [intOf]; omega
      · have hl : less m.e ⟨e0, e1, e2⟩ = false := by assumption
        rw [Exit.noGoto_ret]
        go_ret2
        have h := HS.out
        rw [if_neg (by simp [hl])] at h
        refine ⟨?_, hW.trans (((hbel.alloc (by omega) _).trans (hb2.mono (by simp; omega))).mono (by omega))⟩
        unfold narrow
        rw [HM.out, h]
        rfl
    · have HG := Lib.hid hgo
      clear hgo
      go_wp2
      rw [Exit.noGoto_ret]
      go_ret2
      have h := HG.out
      rw [List.drop_eq_nil_of_le (by omega)] at h
      refine ⟨?_, hW.trans (hbel.mono (by omega))⟩
      unfold narrow
      rw [HM.out, ← h]
      simp only [narGo]
      rw [show max x M = M by omega]
      rfl
end Md
end Go.Proofs.Ytgfokkkkkeaheaa
