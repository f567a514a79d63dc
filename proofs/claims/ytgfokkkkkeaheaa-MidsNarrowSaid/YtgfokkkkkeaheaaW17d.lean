/- The walks of at and of middle (the examples of the chapter). -/
import Derived.Test.YtgfokkkkkeaheaaW17c
import Derived.Deep.RegionHeld3
namespace Go.Proofs.Ytgfokkkkkeaheaa
namespace Md
open Go.RowKit
theorem at_true (l : List Mid) (ver lo hi : Int) (v : Value) (w : World) (h1 : Slc w w.heap.size 4 v l.length (mids l)) (hn : l.length ≤ 1000) (h : narrow l 20 ⟨0, ver, 0⟩ = (lo, hi)) :
    Calls Try.prog 37 #[v, .int .i64 ver, .int .i64 lo, .int .i64 hi] w fun e w' => e = .returned (.bool true) ∧ Below w.heap.size w w' := by
  have hc := narrow_any l 20 0 ver 0 v w h1 hn (by omega)
  rw [h] at hc
  have HC := Lib.hid hc
  clear hc h h1 hn
  have b1 : (lo == lo) = true := by simp
  have b2 : (hi == hi) = true := by simp
  go_enter Try.func37, Try.ntmps37
  go_wp2_with (go_at_call 25; refine HC.out.mono ?_; rintro e w' ⟨rfl, hbel⟩)
  go_ret
  exact ⟨rfl, by assumption⟩

set_option maxHeartbeats 1000000 in
theorem middle_any (w : World) :
    Calls Try.prog 20 #[] w fun e w' => e = .returned (.bool true) ∧ Below w.heap.size w w' := by
  go_enter Try.func20, Try.ntmps20
  go_wp2_with fail
  refine (row_any 20 _ (by omega)).mono ?_
  rintro e w1 ⟨v1, rfl, hown, hb1⟩
  go_wp2_with fail
  have hs1 := Slc.of_own hown
  have HS1 := Lib.hid hs1
  have hlen := rowL_len 20
  refine (make_any (rowL 20) v1 w1 (by rw [hlen]; exact HS1.out) (by omega)).mono ?_
  rintro e w2 ⟨v2, rfl, hs2, hb2⟩
  rw [mk20] at hs2
  obtain ⟨g, cap, rfl, hg1, hg2⟩ := hown.form (by omega)
  have hg3 : ∀ j u, (ents (rowL 20))[j]? = some u → w1.cell? ⟨g, j, none⟩ = some u := by
    intro j u hj
    have hj2 : j < 20 * 3 := by
      have := (List.getElem?_eq_some_iff.1 hj).1
      rw [ents_len, rowL_len] at this
      exact this
    rw [hown.cellAt j hj2, hj]
  have f0_0 : w2.cell? ⟨g, 0, none⟩ = some (.int .u64 0) := (hb2.cell (p := ⟨g, 0, none⟩) hg2).trans (hg3 0 _ rfl)
  have f0_1 : w2.cell? ⟨g, 1, none⟩ = some (.int .i64 0) := (hb2.cell (p := ⟨g, 1, none⟩) hg2).trans (hg3 1 _ rfl)
  have f0_2 : w2.cell? ⟨g, 2, none⟩ = some (.int .i64 0) := (hb2.cell (p := ⟨g, 2, none⟩) hg2).trans (hg3 2 _ rfl)
  have f8_0 : w2.cell? ⟨g, 24, none⟩ = some (.int .u64 0) := (hb2.cell (p := ⟨g, 24, none⟩) hg2).trans (hg3 24 _ rfl)
  have f8_1 : w2.cell? ⟨g, 25, none⟩ = some (.int .i64 8) := (hb2.cell (p := ⟨g, 25, none⟩) hg2).trans (hg3 25 _ rfl)
  have f8_2 : w2.cell? ⟨g, 26, none⟩ = some (.int .i64 0) := (hb2.cell (p := ⟨g, 26, none⟩) hg2).trans (hg3 26 _ rfl)
  have f16_0 : w2.cell? ⟨g, 48, none⟩ = some (.int .u64 0) := (hb2.cell (p := ⟨g, 48, none⟩) hg2).trans (hg3 48 _ rfl)
  have f16_1 : w2.cell? ⟨g, 49, none⟩ = some (.int .i64 16) := (hb2.cell (p := ⟨g, 49, none⟩) hg2).trans (hg3 49 _ rfl)
  have f16_2 : w2.cell? ⟨g, 50, none⟩ = some (.int .i64 0) := (hb2.cell (p := ⟨g, 50, none⟩) hg2).trans (hg3 50 _ rfl)
  have f19_0 : w2.cell? ⟨g, 57, none⟩ = some (.int .u64 0) := (hb2.cell (p := ⟨g, 57, none⟩) hg2).trans (hg3 57 _ rfl)
  have f19_1 : w2.cell? ⟨g, 58, none⟩ = some (.int .i64 19) := (hb2.cell (p := ⟨g, 58, none⟩) hg2).trans (hg3 58 _ rfl)
  have f19_2 : w2.cell? ⟨g, 59, none⟩ = some (.int .i64 0) := (hb2.cell (p := ⟨g, 59, none⟩) hg2).trans (hg3 59 _ rfl)
  clear hg3 hown hs1
  have HS2 := Lib.hid hs2
  clear hs2
  go_wp2_with fail
  have hs12 := hb2.size
  have HNEW : Hid (Slc (w2.alloc (.cells #[.int .u64 0, .int .i64 0, .int .i64 0, .int .i64 0, .int .u64 0, .int .i64 8, .int .i64 0, .int .i64 8, .int .u64 0, .int .i64 16, .int .i64 0, .int .i64 16, .int .u64 0, .int .i64 19, .int .i64 0, .int .i64 19] 58)).drew (w2.heap.size + 1) 4 (.slice (some ⟨w2.heap.size, 0, none⟩) 4 4) M4.length (mids M4)) := Slc.new w2 58 (by rfl)
  have SOF : Hid (∀ W : World, Below w2.heap.size w2 W → Below w2.heap.size w2 W ∧ (∀ b o, b < w1.heap.size → W.cell? ⟨b, o, none⟩ = w2.cell? ⟨b, o, none⟩)) :=
    fun W h => ⟨h, fun b o hb => h.cell (p := ⟨b, o, none⟩) (by show b < _; omega)⟩
  go_region_held3 (fun W => Below w2.heap.size w2 W ∧ (∀ b o, b < w1.heap.size → W.cell? ⟨b, o, none⟩ = w2.cell? ⟨b, o, none⟩))
    (first
      | exact SOF.out _ (by go_grown)
      | exact SOF.out _ (by assumption))
    (first
      | (go_simp; go_at_call 21; have hcur := And.left ‹Below w2.heap.size w2 _ ∧ (∀ b o, b < w1.heap.size → World.cell? _ ⟨b, o, none⟩ = w2.cell? ⟨b, o, none⟩)›; refine (same_eq M4 _ _ _ (Slc.more (HS2.out.below hcur) hcur.size) (Slc.more HNEW.out (by simp)) (by decide)).mono ?_; rintro e w' ⟨rfl, hb'⟩; have hnow := Below.trans hcur (Below.mono hb' hcur.size))
      | (go_simp; go_at_call 37; have hcur := And.left ‹Below w2.heap.size w2 _ ∧ (∀ b o, b < w1.heap.size → World.cell? _ ⟨b, o, none⟩ = w2.cell? ⟨b, o, none⟩)›; refine (at_true M4 _ _ _ _ _ (Slc.more (HS2.out.below hcur) hcur.size) (by decide) (by rfl)).mono ?_; rintro e w' ⟨rfl, hb'⟩; have hnow := Below.trans hcur (Below.mono hb' hcur.size)))
  go_wp2_with fail
  go_ret
  exact ⟨rfl, (hb1.trans (hb2.mono hb1.size)).trans (Below.mono (And.left (by assumption : Below w2.heap.size w2 _ ∧ (∀ b o, b < w1.heap.size → World.cell? _ ⟨b, o, none⟩ = w2.cell? ⟨b, o, none⟩))) (Nat.le_trans hb1.size hb2.size))⟩


end Md
end Go.Proofs.Ytgfokkkkkeaheaa
