/- The walk of Raw's g. -/
import Derived.Test.YtimalebcbfhgaaaW28e
import Derived.StillTailTactics
namespace Go.Proofs.Ytimalebcbfhgaaa
namespace Wt
open Go.RowKit Fl
attribute [local go_sem] run_store_number
set_option maxHeartbeats 1000000 in
theorem g_any (x0 x1 : Int) (s a b : Nat) (w : World) :
    Calls Try.prog 38 #[.agg #[.int .i64 x0, .int .i64 x1, .int .u64 (s : Int), .int .u64 (a : Int), .int .u64 (b : Int)]] w fun e w' => e = .returned (gval x0 x1 s a b) ∧ Below w.heap.size w w' := by
  have h1 := frombits (s : Int)
  have h2 := frombits (a : Int)
  have h3 := frombits (b : Int)
  rw [Int.toNat_natCast] at h1 h2 h3
  obtain ⟨W, hW⟩ : ∃ W, (w.alloc (.cells #[.int .i64 x0, .int .i64 x1, .int .u64 (s : Int), .int .u64 (a : Int), .int .u64 (b : Int)] 54)).alloc (.cells #[.int .i64 0, .int .i64 0, .float .f64 0, .float .f64 0, .float .f64 0] 43) = W := ⟨_, rfl⟩
  have A : Blk W w.heap.size 54 #[.int .i64 x0, .int .i64 x1, .int .u64 (s : Int), .int .u64 (a : Int), .int .u64 (b : Int)] := by rw [← hW]; exact (Blk.made _ _ _).alloc _
  have B : Blk W (w.heap.size + 1) 43 #[.int .i64 0, .int .i64 0, .float .f64 0, .float .f64 0, .float .f64 0] := by
    rw [← hW]
    have h := Blk.made (w.alloc (.cells #[.int .i64 x0, .int .i64 x1, .int .u64 (s : Int), .int .u64 (a : Int), .int .u64 (b : Int)] 54)) 43 #[.int .i64 0, .int .i64 0, .float .f64 0, .float .f64 0, .float .f64 0]
    rw [World.size_alloc] at h
    exact h
  have hbel : Below w.heap.size w W := by rw [← hW]; go_grown
  have HW := Lib.hid hW
  clear hW
  go_enter Try.func38, Try.ntmps38
  go_wp2_with fail
  rw [HW.out]
  clear HW
  have a0 : W.cell? ⟨w.heap.size, 0, none⟩ = some (.int .i64 x0) := A.cell 0
  have a1 : W.cell? ⟨w.heap.size, 1, none⟩ = some (.int .i64 x1) := A.cell 1
  have a2 : W.cell? ⟨w.heap.size, 2, none⟩ = some (.int .u64 (s : Int)) := A.cell 2
  have a3 : W.cell? ⟨w.heap.size, 3, none⟩ = some (.int .u64 (a : Int)) := A.cell 3
  have a4 : W.cell? ⟨w.heap.size, 4, none⟩ = some (.int .u64 (b : Int)) := A.cell 4
  have b0 : W.cell? ⟨w.heap.size + 1, 0, none⟩ = some (.int .i64 0) := B.cell 0
  have b1 : W.cell? ⟨w.heap.size + 1, 1, none⟩ = some (.int .i64 0) := B.cell 1
  have b2 : W.cell? ⟨w.heap.size + 1, 2, none⟩ = some (.float .f64 0) := B.cell 2
  have b3 : W.cell? ⟨w.heap.size + 1, 3, none⟩ = some (.float .f64 0) := B.cell 3
  have b4 : W.cell? ⟨w.heap.size + 1, 4, none⟩ = some (.float .f64 0) := B.cell 4
  have bf : ∀ j, W.frozen? ⟨w.heap.size + 1, j, none⟩ = false := B.free
  clear A B
  go_still_tail 14, (by kernel_rfl)
  change wpList _ _ _ _ _ W.drew
  go_wp2_with fail
  refine bodyPost_ret (v := gval x0 x1 s a b) ?_ rfl ⟨rfl, ?_⟩
  · unfold gval
    go_simp
    simp [results, Try.results38, go_sem, b0, b1, b2, b3, b4]
  · exact ((((((Below.drew hbel).setCell (p := ⟨w.heap.size + 1, 0, none⟩) (by simp) _).setCell (p := ⟨w.heap.size + 1, 1, none⟩) (by simp) _).setCell (p := ⟨w.heap.size + 1, 2, none⟩) (by simp) _).setCell (p := ⟨w.heap.size + 1, 3, none⟩) (by simp) _).setCell (p := ⟨w.heap.size + 1, 4, none⟩) (by simp) _)
end Wt
end Go.Proofs.Ytimalebcbfhgaaa
