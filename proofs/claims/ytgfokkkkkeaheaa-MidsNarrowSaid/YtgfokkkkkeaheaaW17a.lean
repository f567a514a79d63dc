/- The walks of mids.Make and of the reference Make. -/
import Derived.Test.YtgfokkkkkeaheaaRows
import Derived.Test.YtgfokkkkkeaheaaPlain17
import Derived.Test.YtgfokkkkkeaheaaMem
import Derived.WalkKit
import Derived.Handy
import Derived.Lib.Hide
namespace Go.Proofs.Ytgfokkkkkeaheaa
namespace Md
open Go.RowKit
theorem info58 : (Try.prog.info? 58).map (fun i => (i.zero, i.size, i.bytes)) = some (some (.agg #[.int .u64 0, .int .i64 0, .int .i64 0, .int .i64 0]), 4, 32) := by kernel_rfl

theorem make_any (l : List Ent) (v : Value) (w : World) (hl : Slc w w.heap.size 3 v l.length (ents l)) (hn : l.length ≤ 1000) :
    Calls Try.prog 22 #[v] w fun e w' => ∃ v', e = .returned v' ∧ Slc w' w'.heap.size 4 v' (mk l).length (mids (mk l)) ∧ Below w.heap.size w w' := by
  obtain ⟨i58, hi, hz0, hz1, hz2⟩ := info_parts info58
  obtain ⟨hlen, A, c, rfl, hcells⟩ := hl
  have HC := Lib.hid hcells
  clear hcells
  go_enter Try.func22, Try.ntmps22
  go_wp2_with fail
  go_loopw [3, 8] (fun o i wr => ∃ k : Nat, k ≤ l.length ∧ i = .int .i64 k ∧ wr.ownsRow w.heap.size 58 4 o (mkTo l k).length (mids (mkTo l k)) ∧ Below w.heap.size w wr) (fun _ i _ => l.length - (intOf i).toNat)
  case atStart => exact ⟨0, Nat.zero_le _, rfl, World.ownsRow_nil _ _ _ _, Below.refl _ _⟩
  case round =>
    obtain ⟨k, hk, rfl, hown, hbel⟩ := hrel
    by_cases hlt : k < l.length
    · obtain ⟨b, off, rfl, hb, hcell⟩ := HC.out (by omega)
      obtain ⟨c0, c1, c2⟩ := ent_cells (w := wr) (fun j u h => (hbel.cell (p := ⟨b, off + j, none⟩) hb).trans (hcell j u h)) k hlt
      have hbs := hbel.size
      have hbw : b < wr.heap.size := by omega
      obtain ⟨e, he⟩ : ∃ e, l[k] = e := ⟨_, rfl⟩
      rw [he] at c0 c1 c2
      have HE := Lib.hid he
      have HCe := Lib.hid hcell
      have hmle := mkTo_le l k
      clear he hcell HC
      by_cases hmark : mark l.length k = true
      · have fin : ∀ (wa w1 : World) (v' : Value), w1.ownsRow w.heap.size 58 4 v' ((mkTo l k).length + 1) (mids (mkTo l k) ++ Mid.cells ⟨e, k⟩) → wa.grownBy w1 u3.ownBlock → Below wr.heap.size wr wa →
            w1.ownsRow w.heap.size 58 4 v' (mkTo l (k + 1)).length (mids (mkTo l (k + 1))) ∧ Below w.heap.size w w1 := by
          intro wa w1 v' ho hg hwa
          have he : mkTo l (k + 1) = mkTo l k ++ [⟨e, k⟩] := by rw [mkTo_hit l k hlt hmark, HE.out]
          rw [he, List.length_append, mids_snoc]
          exact ⟨ho, own_below hown hbel hwa hbs hg⟩
        have FIN := Lib.hid fin
        have hm : k % 8 = 0 ∨ (¬ k % 8 = 0 ∧ k + 1 = l.length) := by
          simp [mark] at hmark
          omega
        clear fin hmark
        have step : ∀ (P : Prop), ((h8 : ((k : Int) % 8 == 0) = true) → P) → ((h8 : ((k : Int) % 8 == 0) = false) → (h1 : ((k : Int) == (l.length : Int) - 1) = true) → P) → P := by
          intro P f g
          rcases hm with hm | ⟨hm, hm2⟩
          · exact f (by simp; omega)
          · exact g (by simp; omega) (by simp; omega)
        refine step _ ?_ ?_
        all_goals
          intros
          clear step hm
          go_wp2_with (at_builtin; refine wpList_append_own _ rfl (.tmp 23) (.tmp 27) 34 rfl w.heap.size 58 i58 _ 4 32 Try.underlying34 hi hz0 hz1 hz2 rfl (by decide) _ _ _ rfl ((hown.alloc _).alloc _) ⟨wr.heap.size + 1, 0, none⟩ 1 1 (Mid.cells ⟨e, k⟩) rfl rfl (by intro j u hj; match j, hj with | 0, hj => (cases hj; go_cell) | 1, hj => (cases hj; go_cell) | 2, hj => (cases hj; go_cell) | 3, hj => (cases hj; go_cell)) (by intro u hu; simp [Mid.cells] at hu; rcases hu with rfl | rfl | rfl | rfl <;> rfl) (by unfold maxLen; omega) (by omega) (by simp; omega) ?_; intro v' w1 hown' hgrow _)
          obtain ⟨R1, R2⟩ := FIN.out _ _ _ (by assumption) (by assumption) (by go_grown)
          go_roundw
          case rel => exact ⟨k + 1, by omega, by go_num, R1, R2⟩
          case measure => simp [intOf]; omega
      · have hm8 : ((k : Int) % 8 == 0) = false := by simp [mark] at hmark; simp; omega
        have hml : ((k : Int) == (l.length : Int) - 1) = false := by simp [mark] at hmark; simp; omega
        have fin : mkTo l (k + 1) = mkTo l k := mkTo_miss l k hlt (by simpa using hmark)
        have FIN := Lib.hid fin
        clear fin hmark
        go_wp2
        go_roundw
        case rel => exact ⟨k + 1, by omega, by go_num, by rw [FIN.out]; exact hown.alloc _, by go_grown⟩
        case measure => simp [intOf]; omega
    · go_wp2
      go_ret
      have hkl : k = l.length := by omega
      subst hkl
      exact ⟨_, rfl, Slc.of_own hown, hbel⟩
theorem ref_make (l : List Ent) (v : Value) (w : World) (hl : Slc w w.heap.size 3 v l.length (ents l)) (hn : l.length ≤ 1000) :
    Calls Try.prog 23 #[v] w fun e w' => ∃ v', e = .returned v' ∧ Slc w' w'.heap.size 4 v' (mk l).length (mids (mk l)) ∧ Below w.heap.size w w' := by
  obtain ⟨i58, hi, hz0, hz1, hz2⟩ := info_parts info58
  obtain ⟨hlen, A, c, rfl, hcells⟩ := hl
  have HC := Lib.hid hcells
  clear hcells
  go_enter Try.func23, Try.ntmps23
  go_wp2_with fail
  go_loopw [3, 4] (fun o i wr => ∃ k : Nat, k ≤ l.length ∧ i = .int .i64 k ∧ wr.ownsRow w.heap.size 58 4 o (mkTo l k).length (mids (mkTo l k)) ∧ Below w.heap.size w wr) (fun _ i _ => l.length - (intOf i).toNat)
  case atStart => exact ⟨0, Nat.zero_le _, rfl, World.ownsRow_nil _ _ _ _, Below.refl _ _⟩
  case round =>
    obtain ⟨k, hk, rfl, hown, hbel⟩ := hrel
    by_cases hlt : k < l.length
    · obtain ⟨b, off, rfl, hb, hcell⟩ := HC.out (by omega)
      obtain ⟨c0, c1, c2⟩ := ent_cells (w := wr) (fun j u h => (hbel.cell (p := ⟨b, off + j, none⟩) hb).trans (hcell j u h)) k hlt
      have hbs := hbel.size
      have hbw : b < wr.heap.size := by omega
      obtain ⟨e, he⟩ : ∃ e, l[k] = e := ⟨_, rfl⟩
      rw [he] at c0 c1 c2
      have HE := Lib.hid he
      have HCe := Lib.hid hcell
      have hmle := mkTo_le l k
      clear he hcell HC
      by_cases hmark : mark l.length k = true
      · have fin : ∀ (wa w1 : World) (v' : Value), w1.ownsRow w.heap.size 58 4 v' ((mkTo l k).length + 1) (mids (mkTo l k) ++ Mid.cells ⟨e, k⟩) → wa.grownBy w1 u3.ownBlock → Below wr.heap.size wr wa →
            w1.ownsRow w.heap.size 58 4 v' (mkTo l (k + 1)).length (mids (mkTo l (k + 1))) ∧ Below w.heap.size w w1 := by
          intro wa w1 v' ho hg hwa
          have he : mkTo l (k + 1) = mkTo l k ++ [⟨e, k⟩] := by rw [mkTo_hit l k hlt hmark, HE.out]
          rw [he, List.length_append, mids_snoc]
          exact ⟨ho, own_below hown hbel hwa hbs hg⟩
        have FIN := Lib.hid fin
        have hm : k % 8 = 0 ∨ (¬ k % 8 = 0 ∧ k + 1 = l.length) := by
          simp [mark] at hmark
          omega
        clear fin hmark
        have step : ∀ (P : Prop), ((h8 : ((k : Int) % 8 == 0) = true) → P) → ((h8 : ((k : Int) % 8 == 0) = false) → (h1 : ((k : Int) == (l.length : Int) - 1) = true) → P) → P := by
          intro P f g
          rcases hm with hm | ⟨hm, hm2⟩
          · exact f (by simp; omega)
          · exact g (by simp; omega) (by simp; omega)
        refine step _ ?_ ?_
        all_goals
          intros
          clear step hm
          go_wp2_with (at_builtin; refine wpList_append_own _ rfl (.tmp 21) (.tmp 28) 34 rfl w.heap.size 58 i58 _ 4 32 Try.underlying34 hi hz0 hz1 hz2 rfl (by decide) _ _ _ rfl (hown.alloc _) ⟨wr.heap.size, 0, none⟩ 1 1 (Mid.cells ⟨e, k⟩) rfl rfl (by intro j u hj; match j, hj with | 0, hj => (cases hj; go_cell) | 1, hj => (cases hj; go_cell) | 2, hj => (cases hj; go_cell) | 3, hj => (cases hj; go_cell)) (by intro u hu; simp [Mid.cells] at hu; rcases hu with rfl | rfl | rfl | rfl <;> rfl) (by unfold maxLen; omega) (by omega) (by simp; omega) ?_; intro v' w1 hown' hgrow _)
          obtain ⟨R1, R2⟩ := FIN.out _ _ _ (by assumption) (by assumption) (by go_grown)
          go_roundw
          case rel => exact ⟨k + 1, by omega, by go_num, R1, R2⟩
          case measure => simp [intOf]; omega
      · have hm8 : ((k : Int) % 8 == 0) = false := by simp [mark] at hmark; simp; omega
        have hml : ((k : Int) == (l.length : Int) - 1) = false := by simp [mark] at hmark; simp; omega
        have fin : mkTo l (k + 1) = mkTo l k := mkTo_miss l k hlt (by simpa using hmark)
        have FIN := Lib.hid fin
        clear fin hmark
        go_wp2
        go_roundw
        case rel => exact ⟨k + 1, by omega, by go_num, by rw [FIN.out]; exact hown, by go_grown⟩
        case measure => simp [intOf]; omega
    · go_wp2
      go_ret
      have hkl : k = l.length := by omega
      subst hkl
      exact ⟨_, rfl, Slc.of_own hown, hbel⟩


end Md
end Go.Proofs.Ytgfokkkkkeaheaa
