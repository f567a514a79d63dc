import Derived.Test.YtgfokkkkkeaheaaW17d
import Derived.Test.YtgfokkkkkeaheaaPlain17b
import Derived.Test.YtgfokkkkkeaheaaOpen
import Derived.Deep.RegionHeld3
import Derived.Test.YtgfokkkkkeaheaaMem2
namespace Go.Proofs.Ytgfokkkkkeaheaa.midsBetween
open Go.RowKit Md
set_option maxHeartbeats 1000000 in
set_option maxRecDepth 100000 in
theorem walk (l : List Ent) (v : Value) (e0 e1 e2 : Int) (w : World) (h : Slc w w.heap.size 3 v l.length (ents l)) :
    Calls Try.prog 9 #[v, .agg #[.int .u64 e0, .int .i64 e1, .int .i64 e2]] w fun e w' => e = .returned (.bool true) ∧ Below w.heap.size w w' := by
  obtain ⟨i37, hi, hz0, hz1, hz2⟩ := info_parts info37
  obtain ⟨hlen, A, c, rfl, hcells⟩ := h
  have HC := Lib.hid hcells
  clear hcells hlen
  by_cases hl : 150 < l.length
  · go_enter Try.func9, Try.ntmps9
    go_wp2_with (go_at_call 20; refine (middle_any _).mono ?_; rintro e w3 ⟨rfl, hb3⟩)
    go_ret
    exact ⟨rfl, (Below.alloc (Below.refl _ _) (Nat.le_refl _) _).trans (Below.mono (by assumption) (by simp))⟩
  · have z0 : (w.alloc (.cells #[.int .u64 e0, .int .i64 e1, .int .i64 e2] 37)).cell? ⟨w.heap.size, 0, none⟩ = some (.int .u64 e0) := by go_cell
    have z1 : (w.alloc (.cells #[.int .u64 e0, .int .i64 e1, .int .i64 e2] 37)).cell? ⟨w.heap.size, 1, none⟩ = some (.int .i64 e1) := by go_cell
    have z2 : (w.alloc (.cells #[.int .u64 e0, .int .i64 e1, .int .i64 e2] 37)).cell? ⟨w.heap.size, 2, none⟩ = some (.int .i64 e2) := by go_cell
    have hW : Below w.heap.size w (w.alloc (.cells #[.int .u64 e0, .int .i64 e1, .int .i64 e2] 37)) := by go_grown
    have hWs : (w.alloc (.cells #[.int .u64 e0, .int .i64 e1, .int .i64 e2] 37)).heap.size = w.heap.size + 1 := by simp
    go_enter Try.func9, Try.ntmps9
    go_wp2_with fail
    generalize hwo : w.alloc (.cells #[.int .u64 e0, .int .i64 e1, .int .i64 e2] 37) = wo at z0 z1 z2 hW hWs ⊢
    clear hwo
    have Z0 := Lib.hid z0
    have Z1 := Lib.hid z1
    have Z2 := Lib.hid z2
    clear z0 z1 z2
    go_loopw [5, 6] (fun o i wr => ∃ k : Nat, k ≤ l.length ∧ i = .int .i64 k ∧ wr.ownsRow (w.heap.size + 1) 37 3 o (risTo l k).length (ents (risTo l k)) ∧ Below (w.heap.size + 1) wo wr) (fun _ i _ => l.length - (intOf i).toNat)
    case atStart => exact ⟨0, Nat.zero_le _, rfl, World.ownsRow_nil _ _ _ _, Below.refl _ _⟩
    case round =>
      obtain ⟨k, hk, rfl, hown, hbel⟩ := hrel
      have hbs := hbel.size
      have hrl := risTo_le l k
      by_cases hlt : k < l.length
      · obtain ⟨b, off, rfl, hb, hcell⟩ := HC.out (by omega)
        obtain ⟨c0, c1, c2⟩ := ent_cells (w := wr) (fun j u h => (hbel.cell (p := ⟨b, off + j, none⟩) (by show b < _; omega)).trans ((hW.cell (p := ⟨b, off + j, none⟩) hb).trans (hcell j u h))) k hlt
        have hbw : b < wr.heap.size := by omega
        obtain ⟨m, hm⟩ : ∃ m, l[k] = m := ⟨_, rfl⟩
        rw [hm] at c0 c1 c2
        clear hcell
        have SOF : Hid (∀ W : World, Below wr.heap.size wr W → Below wr.heap.size wr W ∧ (∀ b o, b < wr.heap.size → W.cell? ⟨b, o, none⟩ = wr.cell? ⟨b, o, none⟩)) :=
          fun W h => ⟨h, fun b o hb => h.cell (p := ⟨b, o, none⟩) hb⟩
        have hi1 : (0 : Int) ≤ (k : Int) ∧ (k : Int) < (l.length : Int) := by omega
        rcases Nat.eq_zero_or_pos (risTo l k).length with he | he
        · have hst := risTo_first l k hlt he
          have HST := Lib.hid hst
          obtain ⟨_, A1, cc1, rfl, hc1⟩ := Slc.of_own hown
          clear hc1 hst
          have hz : (((risTo l k).length : Int) == 0) = true := beq_iff_eq.2 (by omega)
          go_wp2_with fail
          go_quiet (fail)
          have hnow2 := Lib.hid (below_drewN wr nq)
          have hown2 := own_keep hown hnow2.out
          have hbel2 := hbel.trans (Below.mono hnow2.out (by omega))
          have hbs2 := hbel2.size
          have k0 := (hnow2.out.cell (p := ⟨b, off + k * 3, none⟩) hbw).trans c0
          have k1 := (hnow2.out.cell (p := ⟨b, off + k * 3 + 1, none⟩) hbw).trans c1
          have k2 := (hnow2.out.cell (p := ⟨b, off + k * 3 + 2, none⟩) hbw).trans c2
          have hbw2 := Nat.lt_of_lt_of_le hbw hnow2.out.size
          clear hnow2 c0 c1 c2 hown hbel hbs hbw SOF
          generalize wr.drewN nq = wq at hown2 hbel2 hbs2 k0 k1 k2 hbw2 ⊢
          go_wp2_with (at_builtin; refine wpList_append_own _ rfl (.tmp 40) (.tmp 45) 32 rfl (w.heap.size + 1) 37 i37 _ 3 24 Try.underlying32 hi hz0 hz1 hz2 rfl (by decide) _ _ _ rfl (hown2.alloc _) ⟨wq.heap.size, 0, none⟩ 1 1 (Ent.cells m) rfl rfl (by intro j u hj; match j, hj with | 0, hj => (cases hj; go_cell) | 1, hj => (cases hj; go_cell) | 2, hj => (cases hj; go_cell)) (by intro u hu; simp [Ent.cells] at hu; rcases hu with rfl | rfl | rfl <;> rfl) (by unfold maxLen; omega) (by omega) (by simp; omega) ?_; intro v' w1 hown' hgrow _)
          have hb1 := own_below hown2 hbel2 (by go_grown) (by omega) hgrow
          have hst2 := HST.out
          go_roundw
          case rel => exact ⟨k + 1, by omega, by go_num, by rw [hst2, List.length_append, ents_snoc, hm]; exact hown', hb1⟩
          case measure => simp [intOf]; omega
        · obtain ⟨g, cap, rfl, hg1, hg2⟩ := hown.form he
          have hz : (((risTo l k).length : Int) == 0) = false := beq_eq_false_iff_ne.2 (by omega)
          have hg3 := ent_cells (w := wr) (b := g) (off := 0) (l := risTo l k) (fun j u hj => by
            have hj2 : j < (risTo l k).length * 3 := by
              have := (List.getElem?_eq_some_iff.1 hj).1
              rw [ents_len] at this
              exact this
            rw [Nat.zero_add, hown.cellAt j hj2, hj]) ((risTo l k).length - 1) (by omega)
          simp only [Nat.zero_add] at hg3
          obtain ⟨d0, d1, d2⟩ := hg3
          obtain ⟨z, hzz⟩ : ∃ z, (risTo l k)[(risTo l k).length - 1]'(by omega) = z := ⟨_, rfl⟩
          rw [hzz] at d0 d1 d2
          have hhit := risTo_hit l k hlt he
          have hmiss := risTo_miss l k hlt he
          rw [hzz, hm] at hhit hmiss
          have HH := Lib.hid hhit
          have HM := Lib.hid hmiss
          clear hhit hmiss hzz hm
          obtain ⟨n, hn⟩ : ∃ n, (risTo l k).length = n := ⟨_, rfl⟩
          rw [hn] at hz d0 d1 d2 he hrl ⊢
          have hn1 : (1 : Int) ≤ (n : Int) := by omega
          have q1 : IntKind.i64.wrap ((n : Int) - 1) = (n : Int) - 1 := IntWalk.i64_in _ (by omega)
          have q2 : (0 : Int) ≤ (n : Int) - 1 ∧ (n : Int) - 1 < (n : Int) := by omega
          have q3 : ((n : Int) - 1).toNat = n - 1 := by omega
          have HN := Lib.hid hn
          clear hn
          go_wp2_with fail
          go_region_held3 (fun W => Below wr.heap.size wr W ∧ (∀ b o, b < wr.heap.size → W.cell? ⟨b, o, none⟩ = wr.cell? ⟨b, o, none⟩))
            (first
              | exact SOF.out _ (by go_grown)
              | exact SOF.out _ (by assumption))
            (first
              | (go_simp; go_at_call 27; have hcur := And.left ‹Below wr.heap.size wr _ ∧ (∀ b o, b < wr.heap.size → World.cell? _ ⟨b, o, none⟩ = wr.cell? ⟨b, o, none⟩)›; refine (less_any _ _ _ _ _ _ _).mono ?_; rintro e w' ⟨rfl, hb'⟩; have hnow := Below.trans hcur (Below.mono hb' hcur.size)))
          have hnow := And.left (by assumption : Below wr.heap.size wr _ ∧ (∀ b o, b < wr.heap.size → World.cell? _ ⟨b, o, none⟩ = wr.cell? ⟨b, o, none⟩))
          have hnow2 := Lib.hid hnow
          have hown2 := own_keep hown hnow2.out
          have hbel2 := hbel.trans (Below.mono hnow2.out (by omega))
          have hbs2 := hbel2.size
          have k0 := (hnow2.out.cell (p := ⟨b, off + k * 3, none⟩) hbw).trans c0
          have k1 := (hnow2.out.cell (p := ⟨b, off + k * 3 + 1, none⟩) hbw).trans c1
          have k2 := (hnow2.out.cell (p := ⟨b, off + k * 3 + 2, none⟩) hbw).trans c2
          have hbw2 := Nat.lt_of_lt_of_le hbw hnow2.out.size
          rw [HN.out] at hown2
          clear hnow2 c0 c1 c2 d0 d1 d2 q1 q2 q3 hown hbel hbs hbw SOF hnow hcur hb'
          cases hlz : less z m with
          | true =>
            have hlz' : less ⟨z.h, z.v, z.p⟩ ⟨m.h, m.v, m.p⟩ = true := hlz
            go_wp2_with (at_builtin; refine wpList_append_own _ rfl (.tmp 40) (.tmp 45) 32 rfl (w.heap.size + 1) 37 i37 _ 3 24 Try.underlying32 hi hz0 hz1 hz2 rfl (by decide) _ _ _ rfl (hown2.alloc _) ⟨w'.heap.size, 0, none⟩ 1 1 (Ent.cells m) rfl rfl (by intro j u hj; match j, hj with | 0, hj => (cases hj; go_cell) | 1, hj => (cases hj; go_cell) | 2, hj => (cases hj; go_cell)) (by intro u hu; simp [Ent.cells] at hu; rcases hu with rfl | rfl | rfl <;> rfl) (by unfold maxLen; omega) (by omega) (by simp; omega) ?_; intro v' w1 hown' hgrow _)
            have hb1 := own_below hown2 hbel2 (by go_grown) (by omega) hgrow
            have hst2 := HH.out hlz
            go_roundw
            case rel => exact ⟨k + 1, by omega, by go_num, by rw [hst2, List.length_append, ents_snoc, HN.out]; exact hown', hb1⟩
            case measure => simp [intOf]; omega
          | false =>
            have hlz' : less ⟨z.h, z.v, z.p⟩ ⟨m.h, m.v, m.p⟩ = false := hlz
            have hst2 := HM.out hlz
            have HST2 := Lib.hid hst2
            clear hst2 hlz
            go_wp2_with fail
            go_roundw
            case rel => exact ⟨k + 1, by omega, by go_num, by rw [HST2.out, HN.out]; exact hown2, hbel2⟩
            case measure => simp [intOf]; omega
      · obtain rfl : k = l.length := by omega
        have hrise := risTo_rise l l.length (Nat.le_refl _)
        generalize hS : risTo l l.length = s at hown hrl hrise
        have HS := Lib.hid hS
        have HR := Lib.hid hrise
        clear hS hrise
        have hs1 := Slc.of_own hown
        have HS1 := Lib.hid hs1
        clear hs1
        obtain ⟨_, A1, cc1, rfl, hc1⟩ := HS1.out
        have HC1 := Lib.hid hc1
        clear hc1
        go_wp2_with (go_at_call 22; refine (make_any s _ _ HS1.out (by omega)).mono ?_; rintro e w2 ⟨v2, rfl, s2, b2⟩)
        have y0 : w2.cell? ⟨w.heap.size, 0, none⟩ = some (.int .u64 e0) := (b2.cell (p := ⟨w.heap.size, 0, none⟩) (by show w.heap.size < _; omega)).trans ((hbel.cell (p := ⟨w.heap.size, 0, none⟩) (by simp)).trans Z0.out)
        have y1 : w2.cell? ⟨w.heap.size, 1, none⟩ = some (.int .i64 e1) := (b2.cell (p := ⟨w.heap.size, 1, none⟩) (by show w.heap.size < _; omega)).trans ((hbel.cell (p := ⟨w.heap.size, 1, none⟩) (by simp)).trans Z1.out)
        have y2 : w2.cell? ⟨w.heap.size, 2, none⟩ = some (.int .i64 e2) := (b2.cell (p := ⟨w.heap.size, 2, none⟩) (by show w.heap.size < _; omega)).trans ((hbel.cell (p := ⟨w.heap.size, 2, none⟩) (by simp)).trans Z2.out)
        have hws : w.heap.size < w2.heap.size := by have := b2.size; omega
        have HSS := Lib.hid ((HS1.out.below b2).more b2.size)
        have HSM := Lib.hid s2
        have HB0 := Lib.hid ((hW.trans (hbel.mono (by omega))).trans (b2.mono (by omega)))
        have Y0 := Lib.hid y0
        have Y1 := Lib.hid y1
        have Y2 := Lib.hid y2
        clear y0 y1 y2 s2 hW hbel b2 Z0 Z1 Z2 hown HS1 HC HC1
        go_loopw [8] (fun i wr2 => ∃ z : Int, -1 ≤ z ∧ z ≤ (s.length : Int) ∧ i = .int .i64 z ∧ Below w2.heap.size w2 wr2) (fun i _ => ((s.length : Int) - intOf i).toNat)
        case atStart => exact ⟨-1, by omega, by omega, rfl, Below.refl _ _⟩
        case round =>
          obtain ⟨z, hz1', hz2', rfl, hbr⟩ := hrel
          obtain ⟨wb, rfl⟩ : ∃ wb : World, wb = wr := ⟨_, rfl⟩
          have hbrs := hbr.size
          by_cases hzl : z < (s.length : Int)
          · have y0 : wb.cell? ⟨w.heap.size, 0, none⟩ = some (.int .u64 e0) := (hbr.cell (p := ⟨w.heap.size, 0, none⟩) hws).trans Y0.out
            have y1 : wb.cell? ⟨w.heap.size, 1, none⟩ = some (.int .i64 e1) := (hbr.cell (p := ⟨w.heap.size, 1, none⟩) hws).trans Y1.out
            have y2 : wb.cell? ⟨w.heap.size, 2, none⟩ = some (.int .i64 e2) := (hbr.cell (p := ⟨w.heap.size, 2, none⟩) hws).trans Y2.out
            have hwr : w.heap.size < wb.heap.size := by omega
            by_cases hz0 : 0 ≤ z
            · obtain ⟨k, rfl⟩ : ∃ k : Nat, z = (k : Int) := ⟨z.toNat, by omega⟩
              have hkl : k < s.length := by omega
              obtain ⟨_, A1', c1', ea, hsc⟩ := HSS.out
              injection ea with ea _ ec
              subst ea ec
              obtain ⟨g, off, rfl, hg, hcell⟩ := hsc (by omega)
              obtain ⟨c0, c1, c2⟩ := ent_cells (w := wb) (fun j u h => (hbr.cell (p := ⟨g, off + j, none⟩) hg).trans (hcell j u h)) k hkl
              obtain ⟨x0, x1, x2, hx⟩ : ∃ x0 x1 x2, s[k] = ⟨x0, x1, x2⟩ := ⟨_, _, _, rfl⟩
              rw [hx] at c0 c1 c2
              simp only at c0 c1 c2
              have hgw : g < wb.heap.size := by omega
              clear hx hsc hcell
              go_wp2_with fail
              clear c0 c1 c2 y0 y1 y2
              have p0 : (wb.alloc (.cells #[.int .u64 x0, .int .i64 x1, .int .i64 x2] 37)).cell? ⟨wb.heap.size, 0, none⟩ = some (.int .u64 x0) := by go_cell
              have p1 : (wb.alloc (.cells #[.int .u64 x0, .int .i64 x1, .int .i64 x2] 37)).cell? ⟨wb.heap.size, 1, none⟩ = some (.int .i64 x1) := by go_cell
              have p2 : (wb.alloc (.cells #[.int .u64 x0, .int .i64 x1, .int .i64 x2] 37)).cell? ⟨wb.heap.size, 2, none⟩ = some (.int .i64 x2) := by go_cell
              have hbx : Below wb.heap.size wb (wb.alloc (.cells #[.int .u64 x0, .int .i64 x1, .int .i64 x2] 37)) := by go_grown
              have hwxs : (wb.alloc (.cells #[.int .u64 x0, .int .i64 x1, .int .i64 x2] 37)).heap.size = wb.heap.size + 1 := by simp
              generalize wb.alloc (.cells #[.int .u64 x0, .int .i64 x1, .int .i64 x2] 37) = wx at p0 p1 p2 hbx hwxs ⊢
              have hbt := between s ⟨x0, x1, x2⟩ HR.out
              have HBT := Lib.hid hbt
              have P0 := Lib.hid p0
              have P1 := Lib.hid p1
              have P2 := Lib.hid p2
              clear hbt p0 p1 p2
              have hbr2 := hbr.trans (hbx.mono hbrs)
              go_loopw [10, 11] (fun a i wr => ∃ j : Nat, j ≤ s.length ∧ i = .int .i64 j ∧ a = .int .i64 (cntTo s ⟨x0, x1, x2⟩ j) ∧ Below (wb.heap.size + 1) wx wr) (fun _ i _ => s.length - (intOf i).toNat)
              case atStart => exact ⟨0, Nat.zero_le _, rfl, rfl, Below.refl _ _⟩
              case round =>
                obtain ⟨j, hj, rfl, rfl, hbi⟩ := hrel
                have hcl := cntTo_le s ⟨x0, x1, x2⟩ j
                have hbis := hbi.size
                by_cases hjl : j < s.length
                · obtain ⟨_, A2', c2', eb, hsc⟩ := HSS.out
                  injection eb with eb _ ec
                  subst eb ec
                  obtain ⟨g2, off2, hq, hg, hcell⟩ := hsc (by omega)
                  injection hq with hq
                  injection hq with hq1 hq2 _
                  subst hq1 hq2
                  have hgx : g < wx.heap.size := by omega
                  obtain ⟨c0, c1, c2⟩ := ent_cells (w := wr) (fun j u h => (hbi.cell (p := ⟨g, off + j, none⟩) (by show g < _; omega)).trans ((hbr2.cell (p := ⟨g, off + j, none⟩) hg).trans (hcell j u h))) j hjl
                  have q0 : wr.cell? ⟨wb.heap.size, 0, none⟩ = some (.int .u64 x0) := (hbi.cell (p := ⟨wb.heap.size, 0, none⟩) (by simp)).trans P0.out
                  have q1 : wr.cell? ⟨wb.heap.size, 1, none⟩ = some (.int .i64 x1) := (hbi.cell (p := ⟨wb.heap.size, 1, none⟩) (by simp)).trans P1.out
                  have q2 : wr.cell? ⟨wb.heap.size, 2, none⟩ = some (.int .i64 x2) := (hbi.cell (p := ⟨wb.heap.size, 2, none⟩) (by simp)).trans P2.out
                  have hst := cntTo_succ s ⟨x0, x1, x2⟩ j hjl
                  obtain ⟨m, hm⟩ : ∃ m, s[j] = m := ⟨_, rfl⟩
                  rw [hm] at c0 c1 c2 hst
                  have HST := Lib.hid hst
                  have hgi : g < wr.heap.size := by omega
                  have hwi : wb.heap.size < wr.heap.size := by omega
                  have hj1 : (0 : Int) ≤ (j : Int) ∧ (j : Int) < (s.length : Int) := by omega
                  have SOF : Hid (∀ W : World, Below wr.heap.size wr W → Below wr.heap.size wr W ∧ (∀ b o, b < wr.heap.size → W.cell? ⟨b, o, none⟩ = wr.cell? ⟨b, o, none⟩)) :=
                    fun W h => ⟨h, fun b o hb => h.cell (p := ⟨b, o, none⟩) hb⟩
                  clear hm hst hsc hcell
                  go_wp2_with fail
                  go_region_held3 (fun W => Below wr.heap.size wr W ∧ (∀ b o, b < wr.heap.size → W.cell? ⟨b, o, none⟩ = wr.cell? ⟨b, o, none⟩))
                    (first
                      | exact SOF.out _ (by go_grown)
                      | exact SOF.out _ (by assumption))
                    (first
                      | (go_simp; go_at_call 27; have hcur := And.left ‹Below wr.heap.size wr _ ∧ (∀ b o, b < wr.heap.size → World.cell? _ ⟨b, o, none⟩ = wr.cell? ⟨b, o, none⟩)›; refine (less_any _ _ _ _ _ _ _).mono ?_; rintro e w' ⟨rfl, hb'⟩; have hnow := Below.trans hcur (Below.mono hb' hcur.size)))
                  have hnow := And.left (by assumption : Below wr.heap.size wr _ ∧ (∀ b o, b < wr.heap.size → World.cell? _ ⟨b, o, none⟩ = wr.cell? ⟨b, o, none⟩))
                  have hbi2 := hbi.trans (hnow.mono (by omega))
                  clear hnow hcur hb' SOF q0 q1 q2 c0 c1 c2
                  cases hlz : less m ⟨x0, x1, x2⟩ with
                  | true =>
                    have hlz' : less ⟨m.h, m.v, m.p⟩ ⟨x0, x1, x2⟩ = true := hlz
                    have hst2 := HST.out
                    rw [if_pos hlz] at hst2
                    have HST2 := Lib.hid hst2
                    clear hst2 hlz
                    go_wp2_with fail
                    go_roundw
                    case rel => exact ⟨j + 1, by omega, by go_num, by rw [HST2.out]; go_num, hbi2⟩
                    case measure => simp [intOf]; omega
                  | false =>
                    have hlz' : less ⟨m.h, m.v, m.p⟩ ⟨x0, x1, x2⟩ = false := hlz
                    have hst2 := HST.out
                    rw [if_neg (by simp [hlz])] at hst2
                    have HST2 := Lib.hid hst2
                    clear hst2 hlz
                    go_wp2_with fail
                    go_roundw
                    case rel => exact ⟨j + 1, by omega, by go_num, by rw [HST2.out], hbi2⟩
                    case measure => simp [intOf]; omega
                · obtain rfl : j = s.length := by omega
                  have q0 : wr.cell? ⟨wb.heap.size, 0, none⟩ = some (.int .u64 x0) := (hbi.cell (p := ⟨wb.heap.size, 0, none⟩) (by simp)).trans P0.out
                  have q1 : wr.cell? ⟨wb.heap.size, 1, none⟩ = some (.int .i64 x1) := (hbi.cell (p := ⟨wb.heap.size, 1, none⟩) (by simp)).trans P1.out
                  have q2 : wr.cell? ⟨wb.heap.size, 2, none⟩ = some (.int .i64 x2) := (hbi.cell (p := ⟨wb.heap.size, 2, none⟩) (by simp)).trans P2.out
                  have hb2i := hbr2.trans (hbi.mono (by omega))
                  have hmk : (mk s).length ≤ 1000 := by have := mkTo_le s s.length; unfold mk; omega
                  have hc := narrow_any (mk s) s.length x0 x1 x2 v2 wr ((HSM.out.below hb2i).more hb2i.size) hmk (by omega)
                  have hbt := HBT.out
                  have ecnt : cntTo s ⟨x0, x1, x2⟩ s.length = cnt s ⟨x0, x1, x2⟩ := rfl
                  rw [ecnt]
                  generalize cnt s ⟨x0, x1, x2⟩ = n at hbt ⊢
                  generalize narrow (mk s) s.length ⟨x0, x1, x2⟩ = q at hc hbt
                  obtain ⟨lo, hi'⟩ := q
                  simp only at hc hbt
                  obtain ⟨t1, t2, t3, t4, t5⟩ := hbt
                  have HC3 := Lib.hid hc
                  clear hc ecnt
                  go_wp2_with fail
                  refine HC3.out.mono ?_
                  rintro e w4 ⟨rfl, hb4⟩
                  clear q0 q1 q2
                  have hb24 := hb2i.trans (hb4.mono hb2i.size)
                  go_wp2_with fail
                  go_roundw
                  case rel => exact ⟨(k : Int) + 1, by omega, by omega, by go_num, hb24⟩
                  case measure => simp [intOf]; omega
            · obtain rfl : z = -1 := by omega
              go_wp2_with fail
              clear y0 y1 y2
              have p0 : (wb.alloc (.cells #[.int .u64 e0, .int .i64 e1, .int .i64 e2] 37)).cell? ⟨wb.heap.size, 0, none⟩ = some (.int .u64 e0) := by go_cell
              have p1 : (wb.alloc (.cells #[.int .u64 e0, .int .i64 e1, .int .i64 e2] 37)).cell? ⟨wb.heap.size, 1, none⟩ = some (.int .i64 e1) := by go_cell
              have p2 : (wb.alloc (.cells #[.int .u64 e0, .int .i64 e1, .int .i64 e2] 37)).cell? ⟨wb.heap.size, 2, none⟩ = some (.int .i64 e2) := by go_cell
              have hbx : Below wb.heap.size wb (wb.alloc (.cells #[.int .u64 e0, .int .i64 e1, .int .i64 e2] 37)) := by go_grown
              have hwxs : (wb.alloc (.cells #[.int .u64 e0, .int .i64 e1, .int .i64 e2] 37)).heap.size = wb.heap.size + 1 := by simp
              generalize wb.alloc (.cells #[.int .u64 e0, .int .i64 e1, .int .i64 e2] 37) = wx at p0 p1 p2 hbx hwxs ⊢
              have hbt := between s ⟨e0, e1, e2⟩ HR.out
              have HBT := Lib.hid hbt
              have P0 := Lib.hid p0
              have P1 := Lib.hid p1
              have P2 := Lib.hid p2
              clear hbt p0 p1 p2
              have hbr2 := hbr.trans (hbx.mono hbrs)
              go_loopw [10, 11] (fun a i wr => ∃ j : Nat, j ≤ s.length ∧ i = .int .i64 j ∧ a = .int .i64 (cntTo s ⟨e0, e1, e2⟩ j) ∧ Below (wb.heap.size + 1) wx wr) (fun _ i _ => s.length - (intOf i).toNat)
              case atStart => exact ⟨0, Nat.zero_le _, rfl, rfl, Below.refl _ _⟩
              case round =>
                obtain ⟨j, hj, rfl, rfl, hbi⟩ := hrel
                have hcl := cntTo_le s ⟨e0, e1, e2⟩ j
                have hbis := hbi.size
                by_cases hjl : j < s.length
                · obtain ⟨_, A2', c2', eb, hsc⟩ := HSS.out
                  injection eb with eb _ ec
                  subst eb ec
                  obtain ⟨g, off, rfl, hg, hcell⟩ := hsc (by omega)
                  have hgx : g < wx.heap.size := by omega
                  obtain ⟨c0, c1, c2⟩ := ent_cells (w := wr) (fun j u h => (hbi.cell (p := ⟨g, off + j, none⟩) (by show g < _; omega)).trans ((hbr2.cell (p := ⟨g, off + j, none⟩) hg).trans (hcell j u h))) j hjl
                  have q0 : wr.cell? ⟨wb.heap.size, 0, none⟩ = some (.int .u64 e0) := (hbi.cell (p := ⟨wb.heap.size, 0, none⟩) (by simp)).trans P0.out
                  have q1 : wr.cell? ⟨wb.heap.size, 1, none⟩ = some (.int .i64 e1) := (hbi.cell (p := ⟨wb.heap.size, 1, none⟩) (by simp)).trans P1.out
                  have q2 : wr.cell? ⟨wb.heap.size, 2, none⟩ = some (.int .i64 e2) := (hbi.cell (p := ⟨wb.heap.size, 2, none⟩) (by simp)).trans P2.out
                  have hst := cntTo_succ s ⟨e0, e1, e2⟩ j hjl
                  obtain ⟨m, hm⟩ : ∃ m, s[j] = m := ⟨_, rfl⟩
                  rw [hm] at c0 c1 c2 hst
                  have HST := Lib.hid hst
                  have hgi : g < wr.heap.size := by omega
                  have hwi : wb.heap.size < wr.heap.size := by omega
                  have hj1 : (0 : Int) ≤ (j : Int) ∧ (j : Int) < (s.length : Int) := by omega
                  have SOF : Hid (∀ W : World, Below wr.heap.size wr W → Below wr.heap.size wr W ∧ (∀ b o, b < wr.heap.size → W.cell? ⟨b, o, none⟩ = wr.cell? ⟨b, o, none⟩)) :=
                    fun W h => ⟨h, fun b o hb => h.cell (p := ⟨b, o, none⟩) hb⟩
                  clear hm hst hsc hcell
                  go_wp2_with fail
                  go_region_held3 (fun W => Below wr.heap.size wr W ∧ (∀ b o, b < wr.heap.size → W.cell? ⟨b, o, none⟩ = wr.cell? ⟨b, o, none⟩))
                    (first
                      | exact SOF.out _ (by go_grown)
                      | exact SOF.out _ (by assumption))
                    (first
                      | (go_simp; go_at_call 27; have hcur := And.left ‹Below wr.heap.size wr _ ∧ (∀ b o, b < wr.heap.size → World.cell? _ ⟨b, o, none⟩ = wr.cell? ⟨b, o, none⟩)›; refine (less_any _ _ _ _ _ _ _).mono ?_; rintro e w' ⟨rfl, hb'⟩; have hnow := Below.trans hcur (Below.mono hb' hcur.size)))
                  have hnow := And.left (by assumption : Below wr.heap.size wr _ ∧ (∀ b o, b < wr.heap.size → World.cell? _ ⟨b, o, none⟩ = wr.cell? ⟨b, o, none⟩))
                  have hbi2 := hbi.trans (hnow.mono (by omega))
                  clear hnow hcur hb' SOF q0 q1 q2 c0 c1 c2
                  cases hlz : less m ⟨e0, e1, e2⟩ with
                  | true =>
                    have hlz' : less ⟨m.h, m.v, m.p⟩ ⟨e0, e1, e2⟩ = true := hlz
                    have hst2 := HST.out
                    rw [if_pos hlz] at hst2
                    have HST2 := Lib.hid hst2
                    clear hst2 hlz
                    go_wp2_with fail
                    go_roundw
                    case rel => exact ⟨j + 1, by omega, by go_num, by rw [HST2.out]; go_num, hbi2⟩
                    case measure => simp [intOf]; omega
                  | false =>
                    have hlz' : less ⟨m.h, m.v, m.p⟩ ⟨e0, e1, e2⟩ = false := hlz
                    have hst2 := HST.out
                    rw [if_neg (by simp [hlz])] at hst2
                    have HST2 := Lib.hid hst2
                    clear hst2 hlz
                    go_wp2_with fail
                    go_roundw
                    case rel => exact ⟨j + 1, by omega, by go_num, by rw [HST2.out], hbi2⟩
                    case measure => simp [intOf]; omega
                · obtain rfl : j = s.length := by omega
                  have q0 : wr.cell? ⟨wb.heap.size, 0, none⟩ = some (.int .u64 e0) := (hbi.cell (p := ⟨wb.heap.size, 0, none⟩) (by simp)).trans P0.out
                  have q1 : wr.cell? ⟨wb.heap.size, 1, none⟩ = some (.int .i64 e1) := (hbi.cell (p := ⟨wb.heap.size, 1, none⟩) (by simp)).trans P1.out
                  have q2 : wr.cell? ⟨wb.heap.size, 2, none⟩ = some (.int .i64 e2) := (hbi.cell (p := ⟨wb.heap.size, 2, none⟩) (by simp)).trans P2.out
                  have hb2i := hbr2.trans (hbi.mono (by omega))
                  have hmk : (mk s).length ≤ 1000 := by have := mkTo_le s s.length; unfold mk; omega
                  have hc := narrow_any (mk s) s.length e0 e1 e2 v2 wr ((HSM.out.below hb2i).more hb2i.size) hmk (by omega)
                  have hbt := HBT.out
                  have ecnt : cntTo s ⟨e0, e1, e2⟩ s.length = cnt s ⟨e0, e1, e2⟩ := rfl
                  rw [ecnt]
                  generalize cnt s ⟨e0, e1, e2⟩ = n at hbt ⊢
                  generalize narrow (mk s) s.length ⟨e0, e1, e2⟩ = q at hc hbt
                  obtain ⟨lo, hi'⟩ := q
                  simp only at hc hbt
                  obtain ⟨t1, t2, t3, t4, t5⟩ := hbt
                  have HC3 := Lib.hid hc
                  clear hc ecnt
                  go_wp2_with fail
                  refine HC3.out.mono ?_
                  rintro e w4 ⟨rfl, hb4⟩
                  clear q0 q1 q2
                  have hb24 := hb2i.trans (hb4.mono hb2i.size)
                  go_wp2_with fail
                  go_roundw
                  case rel => exact ⟨(-1 : Int) + 1, by omega, by omega, by go_num, hb24⟩
                  case measure => simp [intOf]
          · go_wp2_with (go_at_call 20; refine (middle_any _).mono ?_; rintro e w5 ⟨rfl, hb5⟩)
            go_ret
            have hb0 := HB0.out
            exact ⟨rfl, hb0.trans (Below.mono (hbr.trans (Below.mono (by assumption) hbrs)) hb0.size)⟩
end Go.Proofs.Ytgfokkkkkeaheaa.midsBetween
