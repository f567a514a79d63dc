/- The walk of the reference Narrow. -/
import Derived.Test.YtgfokkkkkeaheaaW17d
import Derived.Test.YtgfokkkkkeaheaaPlain17c
import Derived.Test.YtgfokkkkkeaheaaMem2
import Derived.Deep.RegionHeld3
namespace Go.Proofs.Ytgfokkkkkeaheaa
namespace Md
open Go.RowKit
set_option maxHeartbeats 1000000 in
set_option maxRecDepth 100000 in
theorem ref_narrow (l : List Mid) (many e0 e1 e2 : Int) (v : Value) (w : World) (h1 : Slc w w.heap.size 4 v l.length (mids l)) (hn : l.length ≤ 1000) (hm : ∀ x ∈ l, 0 ≤ x.n ∧ x.n + 1 ≤ 1000) :
    Calls Try.prog 26 #[v, .int .i64 many, .agg #[.int .u64 e0, .int .i64 e1, .int .i64 e2]] w fun e w' => e = .returned (.tuple #[.int .i64 (loTo l ⟨e0, e1, e2⟩ l.length), .int .i64 (hiL many ⟨e0, e1, e2⟩ l)]) ∧ Below w.heap.size w w' := by
  have H1 := Lib.hid h1
  obtain ⟨hlen, A, c, rfl, hcells⟩ := h1
  have HC := Lib.hid hcells
  have HM := Lib.hid hm
  clear hcells hlen hm
  have z0 : (w.alloc (.cells #[.int .u64 e0, .int .i64 e1, .int .i64 e2] 37)).cell? ⟨w.heap.size, 0, none⟩ = some (.int .u64 e0) := by go_cell
  have z1 : (w.alloc (.cells #[.int .u64 e0, .int .i64 e1, .int .i64 e2] 37)).cell? ⟨w.heap.size, 1, none⟩ = some (.int .i64 e1) := by go_cell
  have z2 : (w.alloc (.cells #[.int .u64 e0, .int .i64 e1, .int .i64 e2] 37)).cell? ⟨w.heap.size, 2, none⟩ = some (.int .i64 e2) := by go_cell
  have hW : Below w.heap.size w (w.alloc (.cells #[.int .u64 e0, .int .i64 e1, .int .i64 e2] 37)) := by go_grown
  have hWs : (w.alloc (.cells #[.int .u64 e0, .int .i64 e1, .int .i64 e2] 37)).heap.size = w.heap.size + 1 := by simp
  go_enter Try.func26, Try.ntmps26
  go_wp2_with fail
  generalize w.alloc (.cells #[.int .u64 e0, .int .i64 e1, .int .i64 e2] 37) = wo at z0 z1 z2 hW hWs ⊢
  have Z0 := Lib.hid z0
  have Z1 := Lib.hid z1
  have Z2 := Lib.hid z2
  clear z0 z1 z2
  go_loopw [9, 10] (fun hi i wr => ∃ (z : Int), -1 ≤ z ∧ z < (l.length : Int) ∧ i = .int .i64 z ∧ hi = .int .i64 (hiL many ⟨e0, e1, e2⟩ (l.drop (z + 1).toNat)) ∧ Below (w.heap.size + 1) wo wr) (fun _ i _ => (intOf i + 1).toNat)
  case atStart => exact ⟨(l.length : Int) - 1, by omega, by omega, rfl, by rw [List.drop_eq_nil_of_le (by omega)]; rfl, Below.refl _ _⟩
  case round =>
    obtain ⟨z, hz1, hz2, rfl, rfl, hbel⟩ := hrel
    have hbs := hbel.size
    by_cases hz0 : 0 ≤ z
    · obtain ⟨k, rfl⟩ : ∃ k : Nat, z = (k : Int) := ⟨z.toNat, by omega⟩
      have hkl : k < l.length := by omega
      have hq : ((k : Int) + 1).toNat = k + 1 := by omega
      rw [hq]
      clear hq
      obtain ⟨b, off, rfl, hb, hcell⟩ := HC.out (by omega)
      have hst := hiL_drop many ⟨e0, e1, e2⟩ l k hkl
      obtain ⟨c0, c1, c2, c3⟩ := mid_cells (w := wr) (fun j u h => (hbel.cell (p := ⟨b, off + j, none⟩) (by show b < _; omega)).trans ((hW.cell (p := ⟨b, off + j, none⟩) hb).trans (hcell j u h))) k hkl
      have q0 : wr.cell? ⟨w.heap.size, 0, none⟩ = some (.int .u64 e0) := (hbel.cell (p := ⟨w.heap.size, 0, none⟩) (by simp)).trans Z0.out
      have q1 : wr.cell? ⟨w.heap.size, 1, none⟩ = some (.int .i64 e1) := (hbel.cell (p := ⟨w.heap.size, 1, none⟩) (by simp)).trans Z1.out
      have q2 : wr.cell? ⟨w.heap.size, 2, none⟩ = some (.int .i64 e2) := (hbel.cell (p := ⟨w.heap.size, 2, none⟩) (by simp)).trans Z2.out
      obtain ⟨m, hm⟩ : ∃ m, l[k] = m := ⟨_, rfl⟩
      rw [hm] at c0 c1 c2 c3 hst
      have HST := Lib.hid hst
      have hbw : b < wr.heap.size := by omega
      have hww : w.heap.size < wr.heap.size := by omega
      have hk1 : (0 : Int) ≤ (k : Int) ∧ (k : Int) < (l.length : Int) := by omega
      have SOF : Hid (∀ W : World, Below wr.heap.size wr W → Below wr.heap.size wr W ∧ (∀ b o, b < wr.heap.size → W.cell? ⟨b, o, none⟩ = wr.cell? ⟨b, o, none⟩)) :=
        fun W h => ⟨h, fun b o hb => h.cell (p := ⟨b, o, none⟩) hb⟩
      generalize hiL many ⟨e0, e1, e2⟩ (l.drop (k + 1)) = old at HST ⊢
      clear hm hcell hst
      go_wp2_with fail
      go_region_held3 (fun W => Below wr.heap.size wr W ∧ (∀ b o, b < wr.heap.size → W.cell? ⟨b, o, none⟩ = wr.cell? ⟨b, o, none⟩))
        (first
          | exact SOF.out _ (by go_grown)
          | exact SOF.out _ (by assumption))
        (first
          | (go_simp; go_at_call 38; have hcur := And.left ‹Below wr.heap.size wr _ ∧ (∀ b o, b < wr.heap.size → World.cell? _ ⟨b, o, none⟩ = wr.cell? ⟨b, o, none⟩)›; refine (ref_less _ _ _ _ _ _ _).mono ?_; rintro e w' ⟨rfl, hb'⟩; have hnow := Below.trans hcur (Below.mono hb' hcur.size)))
      have hnow := And.left (by assumption : Below wr.heap.size wr _ ∧ (∀ b o, b < wr.heap.size → World.cell? _ ⟨b, o, none⟩ = wr.cell? ⟨b, o, none⟩))
      have hbel2 := hbel.trans (hnow.mono (by omega))
      have c3 : w'.cell? ⟨b, off + k * 4 + 3, none⟩ = some (.int .i64 m.n) := (hnow.cell (p := ⟨b, off + k * 4 + 3, none⟩) hbw).trans c3
      clear hnow hcur hb' SOF q0 q1 q2 c0 c1 c2
      cases hlz : less m.e ⟨e0, e1, e2⟩ with
      | true =>
        have hlz' : less ⟨m.e.h, m.e.v, m.e.p⟩ ⟨e0, e1, e2⟩ = true := hlz
        have hst2 := HST.out
        rw [if_pos hlz] at hst2
        have HST2 := Lib.hid hst2
        clear hst2 hlz
        go_wp2_with fail
        go_roundw
        case rel => exact ⟨(k : Int) - 1, by omega, by omega, rfl, by rw [show ((k : Int) - 1 + 1).toNat = k by omega, HST2.out], hbel2⟩
        case measure => simp [intOf]
      | false =>
        have hlz' : less ⟨m.e.h, m.e.v, m.e.p⟩ ⟨e0, e1, e2⟩ = false := hlz
        have hst2 := HST.out
        rw [if_neg (by simp [hlz])] at hst2
        have HST2 := Lib.hid hst2
        clear hst2 hlz
        go_wp2_with fail
        go_roundw
        case rel => exact ⟨(k : Int) - 1, by omega, by omega, rfl, by rw [show ((k : Int) - 1 + 1).toNat = k by omega, HST2.out], hbel2⟩
        case measure => simp [intOf]
    · obtain rfl : z = -1 := by omega
      have hq : l.drop ((-1 : Int) + 1).toNat = l := rfl
      rw [hq]
      generalize hhi : hiL many ⟨e0, e1, e2⟩ l = hi
      have HHI := Lib.hid hhi
      clear hhi
      go_wp2_with fail
      obtain ⟨wb, rfl⟩ : ∃ wb : World, wb = wr := ⟨_, rfl⟩
      have hbelb := Lib.hid hbel
      clear hbel
      go_loopw [8, 11] (fun lo i wr => ∃ k : Nat, k ≤ l.length ∧ i = .int .i64 k ∧ lo = .int .i64 (loTo l ⟨e0, e1, e2⟩ k) ∧ Below (w.heap.size + 1) wo wr) (fun _ i _ => l.length - (intOf i).toNat)
      case atStart => exact ⟨0, Nat.zero_le _, rfl, rfl, hbelb.out⟩
      case round =>
        obtain ⟨k, hk, rfl, rfl, hbel⟩ := hrel
        have hbs := hbel.size
        by_cases hkl : k < l.length
        · obtain ⟨b, off, rfl, hb, hcell⟩ := HC.out (by omega)
          have hst := loTo_succ l ⟨e0, e1, e2⟩ k hkl
          obtain ⟨c0, c1, c2, c3⟩ := mid_cells (w := wr) (fun j u h => (hbel.cell (p := ⟨b, off + j, none⟩) (by show b < _; omega)).trans ((hW.cell (p := ⟨b, off + j, none⟩) hb).trans (hcell j u h))) k hkl
          have q0 : wr.cell? ⟨w.heap.size, 0, none⟩ = some (.int .u64 e0) := (hbel.cell (p := ⟨w.heap.size, 0, none⟩) (by simp)).trans Z0.out
          have q1 : wr.cell? ⟨w.heap.size, 1, none⟩ = some (.int .i64 e1) := (hbel.cell (p := ⟨w.heap.size, 1, none⟩) (by simp)).trans Z1.out
          have q2 : wr.cell? ⟨w.heap.size, 2, none⟩ = some (.int .i64 e2) := (hbel.cell (p := ⟨w.heap.size, 2, none⟩) (by simp)).trans Z2.out
          have hmn := HM.out l[k] (List.getElem_mem _)
          obtain ⟨m, hm⟩ : ∃ m, l[k] = m := ⟨_, rfl⟩
          rw [hm] at c0 c1 c2 c3 hst hmn
          have HST := Lib.hid hst
          have hbw : b < wr.heap.size := by omega
          have hww : w.heap.size < wr.heap.size := by omega
          have hk1 : (0 : Int) ≤ (k : Int) ∧ (k : Int) < (l.length : Int) := by omega
          have SOF : Hid (∀ W : World, Below wr.heap.size wr W → Below wr.heap.size wr W ∧ (∀ b o, b < wr.heap.size → W.cell? ⟨b, o, none⟩ = wr.cell? ⟨b, o, none⟩)) :=
            fun W h => ⟨h, fun b o hb => h.cell (p := ⟨b, o, none⟩) hb⟩
          generalize loTo l ⟨e0, e1, e2⟩ k = old at HST ⊢
          clear hm hcell hst
          go_wp2_with fail
          go_region_held3 (fun W => Below wr.heap.size wr W ∧ (∀ b o, b < wr.heap.size → W.cell? ⟨b, o, none⟩ = wr.cell? ⟨b, o, none⟩))
            (first
              | exact SOF.out _ (by go_grown)
              | exact SOF.out _ (by assumption))
            (first
              | (go_simp; go_at_call 38; have hcur := And.left ‹Below wr.heap.size wr _ ∧ (∀ b o, b < wr.heap.size → World.cell? _ ⟨b, o, none⟩ = wr.cell? ⟨b, o, none⟩)›; refine (ref_less _ _ _ _ _ _ _).mono ?_; rintro e w' ⟨rfl, hb'⟩; have hnow := Below.trans hcur (Below.mono hb' hcur.size)))
          have hnow := And.left (by assumption : Below wr.heap.size wr _ ∧ (∀ b o, b < wr.heap.size → World.cell? _ ⟨b, o, none⟩ = wr.cell? ⟨b, o, none⟩))
          have hbel2 := hbel.trans (hnow.mono (by omega))
          have c3 : w'.cell? ⟨b, off + k * 4 + 3, none⟩ = some (.int .i64 m.n) := (hnow.cell (p := ⟨b, off + k * 4 + 3, none⟩) hbw).trans c3
          clear hnow hcur hb' SOF q0 q1 q2 c0 c1 c2
          cases hlz : less m.e ⟨e0, e1, e2⟩ with
          | true =>
            have hlz' : less ⟨m.e.h, m.e.v, m.e.p⟩ ⟨e0, e1, e2⟩ = true := hlz
            have hst2 := HST.out
            rw [if_pos hlz] at hst2
            have HST2 := Lib.hid hst2
            clear hst2 hlz
            go_wp2_with fail
            go_roundw
            case rel => exact ⟨k + 1, by omega, by go_num, by rw [HST2.out], hbel2⟩
            case measure => simp [intOf]; omega
          | false =>
            have hlz' : less ⟨m.e.h, m.e.v, m.e.p⟩ ⟨e0, e1, e2⟩ = false := hlz
            have hst2 := HST.out
            rw [if_neg (by simp [hlz])] at hst2
            have HST2 := Lib.hid hst2
            clear hst2 hlz
            go_wp2_with fail
            go_roundw
            case rel => exact ⟨k + 1, by omega, by go_num, by rw [HST2.out], hbel2⟩
            case measure => simp [intOf]; omega
        · obtain rfl : k = l.length := by omega
          generalize hlo : loTo l ⟨e0, e1, e2⟩ l.length = lo
          have HLO := Lib.hid hlo
          clear hlo
          go_wp2_with fail
          go_ret2
          refine ⟨?_, hW.trans (hbel.mono (by omega))⟩
          rw [HLO.out, HHI.out]
          rfl
end Md
end Go.Proofs.Ytgfokkkkkeaheaa
