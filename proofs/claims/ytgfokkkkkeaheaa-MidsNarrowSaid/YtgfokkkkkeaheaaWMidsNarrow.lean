import Derived.Test.YtgfokkkkkeaheaaW17e
import Derived.Test.YtgfokkkkkeaheaaW17f
import Derived.Test.YtgfokkkkkeaheaaOpen
namespace Go.Proofs.Ytgfokkkkkeaheaa.midsNarrow
open Go.RowKit Md
set_option maxHeartbeats 1000000 in
set_option maxRecDepth 100000 in
theorem walk (l : List Ent) (v : Value) (e0 e1 e2 : Int) (w : World) (h : Slc w w.heap.size 3 v l.length (ents l)) :
    Calls Try.prog 8 #[v, .agg #[.int .u64 e0, .int .i64 e1, .int .i64 e2]] w fun e w' => e = .returned (.bool true) ∧ Below w.heap.size w w' := by
  have H0 := Lib.hid h
  obtain ⟨hlen, A, c, rfl, hcells⟩ := h
  clear hcells hlen
  by_cases hl : 100 < l.length
  · go_enter Try.func8, Try.ntmps8
    go_wp2_with (go_at_call 20; refine (middle_any _).mono ?_; rintro e w3 ⟨rfl, hb3⟩)
    go_ret
    exact ⟨rfl, (Below.alloc (Below.refl _ _) (Nat.le_refl _) _).trans (Below.mono (by assumption) (by simp))⟩
  · have z0 : (w.alloc (.cells #[.int .u64 e0, .int .i64 e1, .int .i64 e2] 37)).cell? ⟨w.heap.size, 0, none⟩ = some (.int .u64 e0) := by go_cell
    have z1 : (w.alloc (.cells #[.int .u64 e0, .int .i64 e1, .int .i64 e2] 37)).cell? ⟨w.heap.size, 1, none⟩ = some (.int .i64 e1) := by go_cell
    have z2 : (w.alloc (.cells #[.int .u64 e0, .int .i64 e1, .int .i64 e2] 37)).cell? ⟨w.heap.size, 2, none⟩ = some (.int .i64 e2) := by go_cell
    have hW : Below w.heap.size w (w.alloc (.cells #[.int .u64 e0, .int .i64 e1, .int .i64 e2] 37)) := by go_grown
    have hWs : (w.alloc (.cells #[.int .u64 e0, .int .i64 e1, .int .i64 e2] 37)).heap.size = w.heap.size + 1 := by simp
    go_enter Try.func8, Try.ntmps8
    go_wp2_with fail
    generalize w.alloc (.cells #[.int .u64 e0, .int .i64 e1, .int .i64 e2] 37) = wo at z0 z1 z2 hW hWs ⊢
    refine (sort_any l _ wo ((H0.out.below hW).more hW.size) (by omega)).mono ?_
    rintro e w1 ⟨v1, s, rfl, hs1, hrise, hsl, hb1⟩
    have HR := Lib.hid hrise
    have HS1 := Lib.hid hs1
    clear hrise hs1
    go_wp2_with fail
    refine (ref_make s v1 w1 HS1.out (by omega)).mono ?_
    rintro e w2 ⟨v2, rfl, s2, b2⟩
    obtain ⟨_, A1, cc1, rfl, hc1⟩ := HS1.out
    clear hc1
    have hb12 := hb1.trans (b2.mono hb1.size)
    have y0 : w2.cell? ⟨w.heap.size, 0, none⟩ = some (.int .u64 e0) := (hb12.cell (p := ⟨w.heap.size, 0, none⟩) (by show w.heap.size < _; omega)).trans z0
    have y1 : w2.cell? ⟨w.heap.size, 1, none⟩ = some (.int .i64 e1) := (hb12.cell (p := ⟨w.heap.size, 1, none⟩) (by show w.heap.size < _; omega)).trans z1
    have y2 : w2.cell? ⟨w.heap.size, 2, none⟩ = some (.int .i64 e2) := (hb12.cell (p := ⟨w.heap.size, 2, none⟩) (by show w.heap.size < _; omega)).trans z2
    have hws : w.heap.size < w2.heap.size := by have := hb12.size; omega
    have HSS := Lib.hid ((HS1.out.below b2).more b2.size)
    have HSM := Lib.hid s2
    have HB0 := Lib.hid (hW.trans (hb12.mono (by omega)))
    have Y0 := Lib.hid y0
    have Y1 := Lib.hid y1
    have Y2 := Lib.hid y2
    have HMK : Hid ((mk s).length ≤ 1000) := by have := mkTo_le s s.length; show (mk s).length ≤ 1000; unfold mk; omega
    have HIN : Hid (∀ x ∈ mk s, 0 ≤ x.n ∧ x.n + 1 ≤ 1000) := fun x hx => by have := good_in s (mk s) 0 (mk_good s) x hx; omega
    clear y0 y1 y2 s2 hW hb12 hb1 b2 z0 z1 z2 HS1 H0
    go_wp2_with fail
    go_loopw [7] (fun i wr2 => ∃ z : Int, -1 ≤ z ∧ z ≤ (s.length : Int) ∧ i = .int .i64 z ∧ Below w2.heap.size w2 wr2) (fun i _ => ((s.length : Int) - intOf i).toNat)
    case atStart => exact ⟨-1, by omega, by omega, rfl, Below.refl _ _⟩
    case round =>
          obtain ⟨z, hz1', hz2', rfl, hbr⟩ := hrel
          obtain ⟨wb, rfl⟩ : ∃ wb : World, wb = wr := ⟨_, rfl⟩
          have hbrs := hbr.size
          by_cases hzl : z < (s.length : Int)
          · have y0 : wb.cell? ⟨w.heap.size, 0, none⟩ = some (.int .u64 e0) := (hbr.cell (p := ⟨w.heap.size, 0, none⟩) hws).trans Y0.out
            have y1 : wb.cell? ⟨w.heap.size, 1, none⟩ = some (.int .i64 e1) := (hbr.cell (p := ⟨w.heap.size, 1, none⟩) hws).trans Y1.out
            have y2 : wb.cell? ⟨w.heap.size, 2, none⟩ = some (.int .i64 e2) := (hbr.cell (p := ⟨w.heap.size, 2, none⟩) hws).trans Y2.out
            have hwr : w.heap.size < wb.heap.size := by omega
            by_cases hz0 : 0 ≤ z
            · obtain ⟨k, rfl⟩ : ∃ k : Nat, z = (k : Int) := ⟨z.toNat, by omega⟩
              have hkl : k < s.length := by omega
              obtain ⟨_, A1', c1', ea, hsc⟩ := HSS.out
              injection ea with ea _ ec
              subst ea ec
              obtain ⟨g, off, rfl, hg, hcell⟩ := hsc (by omega)
              obtain ⟨c0, c1, c2⟩ := ent_cells (w := wb) (fun j u h => (hbr.cell (p := ⟨g, off + j, none⟩) hg).trans (hcell j u h)) k hkl
              obtain ⟨x0, x1, x2, hx⟩ : ∃ x0 x1 x2, s[k] = ⟨x0, x1, x2⟩ := ⟨_, _, _, rfl⟩
              rw [hx] at c0 c1 c2
              simp only at c0 c1 c2
              have hgw : g < wb.heap.size := by omega
              clear hx hsc hcell
              have p0 : (wb.alloc (.cells #[.int .u64 x0, .int .i64 x1, .int .i64 x2] 37)).cell? ⟨wb.heap.size, 0, none⟩ = some (.int .u64 x0) := by go_cell
              have p1 : (wb.alloc (.cells #[.int .u64 x0, .int .i64 x1, .int .i64 x2] 37)).cell? ⟨wb.heap.size, 1, none⟩ = some (.int .i64 x1) := by go_cell
              have p2 : (wb.alloc (.cells #[.int .u64 x0, .int .i64 x1, .int .i64 x2] 37)).cell? ⟨wb.heap.size, 2, none⟩ = some (.int .i64 x2) := by go_cell
              have hbx : Below wb.heap.size wb (wb.alloc (.cells #[.int .u64 x0, .int .i64 x1, .int .i64 x2] 37)) := by go_grown
              have hwxs : (wb.alloc (.cells #[.int .u64 x0, .int .i64 x1, .int .i64 x2] 37)).heap.size = wb.heap.size + 1 := by simp
              have hbr2 := hbr.trans (hbx.mono hbrs)
              have hc := narrow_any (mk s) s.length x0 x1 x2 v2 (wb.alloc (.cells #[.int .u64 x0, .int .i64 x1, .int .i64 x2] 37)) ((HSM.out.below hbr2).more hbr2.size) HMK.out (by omega)
              have HC1 := Lib.hid hc
              have heq := narrow_is s ⟨x0, x1, x2⟩ HR.out
              have HEQ := Lib.hid heq
              have P0 := Lib.hid p0
              have P1 := Lib.hid p1
              have P2 := Lib.hid p2
              clear hc heq p0 p1 p2
              go_wp2_with fail
              refine HC1.out.mono ?_
              rintro e w4 ⟨rfl, hb4⟩
              have hb24 := hbr2.trans (hb4.mono hbr2.size)
              have r0 : w4.cell? ⟨wb.heap.size, 0, none⟩ = some (.int .u64 x0) := (hb4.cell (p := ⟨wb.heap.size, 0, none⟩) (by simp)).trans P0.out
              have r1 : w4.cell? ⟨wb.heap.size, 1, none⟩ = some (.int .i64 x1) := (hb4.cell (p := ⟨wb.heap.size, 1, none⟩) (by simp)).trans P1.out
              have r2 : w4.cell? ⟨wb.heap.size, 2, none⟩ = some (.int .i64 x2) := (hb4.cell (p := ⟨wb.heap.size, 2, none⟩) (by simp)).trans P2.out
              have hc2 := ref_narrow (mk s) s.length x0 x1 x2 v2 w4 ((HSM.out.below hb24).more hb24.size) HMK.out HIN.out
              have HC2 := Lib.hid hc2
              rw [HEQ.out]
              clear hc2 HC1 HEQ
              simp only
              generalize loTo (mk s) ⟨x0, x1, x2⟩ (mk s).length = lo at HC2 ⊢
              generalize hiL s.length ⟨x0, x1, x2⟩ (mk s) = hi at HC2 ⊢
              have t1 : (lo != lo) = false := by simp
              have t2 : (hi != hi) = false := by simp
              go_wp2_with fail
              refine HC2.out.mono ?_
              rintro e w5 ⟨rfl, hb5⟩
              clear r0 r1 r2
              have hb25 := hb24.trans (hb5.mono hb24.size)
              go_wp2_with fail
              go_roundw
              case rel => exact ⟨(k : Int) + 1, by omega, by omega, by go_num, hb25⟩
              case measure => simp [intOf]; omega
            · obtain rfl : z = -1 := by omega
              have p0 : (wb.alloc (.cells #[.int .u64 e0, .int .i64 e1, .int .i64 e2] 37)).cell? ⟨wb.heap.size, 0, none⟩ = some (.int .u64 e0) := by go_cell
              have p1 : (wb.alloc (.cells #[.int .u64 e0, .int .i64 e1, .int .i64 e2] 37)).cell? ⟨wb.heap.size, 1, none⟩ = some (.int .i64 e1) := by go_cell
              have p2 : (wb.alloc (.cells #[.int .u64 e0, .int .i64 e1, .int .i64 e2] 37)).cell? ⟨wb.heap.size, 2, none⟩ = some (.int .i64 e2) := by go_cell
              have hbx : Below wb.heap.size wb (wb.alloc (.cells #[.int .u64 e0, .int .i64 e1, .int .i64 e2] 37)) := by go_grown
              have hwxs : (wb.alloc (.cells #[.int .u64 e0, .int .i64 e1, .int .i64 e2] 37)).heap.size = wb.heap.size + 1 := by simp
              have hbr2 := hbr.trans (hbx.mono hbrs)
              have hc := narrow_any (mk s) s.length e0 e1 e2 v2 (wb.alloc (.cells #[.int .u64 e0, .int .i64 e1, .int .i64 e2] 37)) ((HSM.out.below hbr2).more hbr2.size) HMK.out (by omega)
              have HC1 := Lib.hid hc
              have heq := narrow_is s ⟨e0, e1, e2⟩ HR.out
              have HEQ := Lib.hid heq
              have P0 := Lib.hid p0
              have P1 := Lib.hid p1
              have P2 := Lib.hid p2
              clear hc heq p0 p1 p2
              go_wp2_with fail
              refine HC1.out.mono ?_
              rintro e w4 ⟨rfl, hb4⟩
              have hb24 := hbr2.trans (hb4.mono hbr2.size)
              have r0 : w4.cell? ⟨wb.heap.size, 0, none⟩ = some (.int .u64 e0) := (hb4.cell (p := ⟨wb.heap.size, 0, none⟩) (by simp)).trans P0.out
              have r1 : w4.cell? ⟨wb.heap.size, 1, none⟩ = some (.int .i64 e1) := (hb4.cell (p := ⟨wb.heap.size, 1, none⟩) (by simp)).trans P1.out
              have r2 : w4.cell? ⟨wb.heap.size, 2, none⟩ = some (.int .i64 e2) := (hb4.cell (p := ⟨wb.heap.size, 2, none⟩) (by simp)).trans P2.out
              have hc2 := ref_narrow (mk s) s.length e0 e1 e2 v2 w4 ((HSM.out.below hb24).more hb24.size) HMK.out HIN.out
              have HC2 := Lib.hid hc2
              rw [HEQ.out]
              clear hc2 HC1 HEQ
              simp only
              generalize loTo (mk s) ⟨e0, e1, e2⟩ (mk s).length = lo at HC2 ⊢
              generalize hiL s.length ⟨e0, e1, e2⟩ (mk s) = hi at HC2 ⊢
              have t1 : (lo != lo) = false := by simp
              have t2 : (hi != hi) = false := by simp
              go_wp2_with fail
              refine HC2.out.mono ?_
              rintro e w5 ⟨rfl, hb5⟩
              clear r0 r1 r2
              have hb25 := hb24.trans (hb5.mono hb24.size)
              go_wp2_with fail
              go_roundw
              case rel => exact ⟨(-1 : Int) + 1, by omega, by omega, by go_num, hb25⟩
              case measure => simp [intOf]
          · go_wp2_with (go_at_call 20; refine (middle_any _).mono ?_; rintro e w5 ⟨rfl, hb5⟩)
            go_ret
            have hb0 := HB0.out
            exact ⟨rfl, hb0.trans (Below.mono (hbr.trans (Below.mono (by assumption) hbrs)) hb0.size)⟩
end Go.Proofs.Ytgfokkkkkeaheaa.midsNarrow
