import Derived.Test.YtgfokkkkkeaheaaW17d
import Derived.Test.YtgfokkkkkeaheaaOpen
import Derived.Laws.AppendOwnNone
namespace Go.Proofs.Ytgfokkkkkeaheaa.midsMake
open Go.RowKit Md
theorem rest (l : List Ent) (A : Option Addr) (c : Nat) (w w1 : World) (v1 : Value) (h : Slc w w.heap.size 3 (.slice A l.length c) l.length (ents l)) (hl : l.length ≤ 200)
    (hown : w1.ownsRow w.heap.size 37 3 v1 l.length (ents l)) (hb : Below w.heap.size w w1) :
    Slc w1 w1.heap.size 3 v1 l.length (ents l) ∧ Slc w1 w1.heap.size 3 (.slice A l.length c) l.length (ents l) ∧ (mk l).length ≤ 1000 :=
  ⟨Slc.of_own hown, (h.below hb).more hb.size, by have := mkTo_le l l.length; unfold mk; omega⟩

theorem walk (l : List Ent) (v : Value) (w : World) (h : Slc w w.heap.size 3 v l.length (ents l)) :
    Calls Try.prog 7 #[v] w fun e w' => e = .returned (.bool true) ∧ Below w.heap.size w w' := by
  obtain ⟨i37, hi, hz0, hz1, hz2⟩ := info_parts info37
  have H0 := Lib.hid h
  obtain ⟨hlen, A, c, rfl, hcells⟩ := h
  have HC := Lib.hid hcells
  by_cases hl : 200 < l.length
  · clear hcells hlen
    go_enter Try.func7, Try.ntmps7
    go_wp2_with (go_at_call 20; refine (middle_any _).mono ?_; rintro e w3 ⟨rfl, hb3⟩)
    go_ret
    exact ⟨rfl, by assumption⟩
  · rcases A with _ | ad
    · have hl0 : l.length = 0 := by
        rcases Nat.eq_zero_or_pos l.length with h0 | h0
        · exact h0
        · obtain ⟨b, off, hb, _⟩ := hcells h0
          cases hb
      obtain rfl : l = [] := List.eq_nil_of_length_eq_zero hl0
      clear hcells hlen
      go_enter Try.func7, Try.ntmps7
      go_wp2_with fail
      obtain ⟨r1, r2, r3⟩ := rest [] none c w w (.slice none 0 0) H0.out (by simp) (World.ownsRow_nil _ _ _ _) (Below.refl _ _)
      have R2 := Lib.hid r2
      refine (make_any [] _ _ r1 (by simp)).mono ?_
      rintro e w2 ⟨v2, rfl, s2, b2⟩
      clear r1 r2
      go_wp2_with fail
      refine (ref_make [] _ _ ((R2.out.below b2).more b2.size) (by simp)).mono ?_
      rintro e w3 ⟨v3, rfl, s3, b3⟩
      go_wp2_with fail
      refine (same_eq (mk []) _ _ _ ((s2.below b3).more b3.size) s3 r3).mono ?_
      rintro e w4 ⟨rfl, b4⟩
      clear s2 s3
      have b5 : Below w.heap.size w w4 := (b2.trans (b3.mono b2.size)).trans (b4.mono (Nat.le_trans b2.size b3.size))
      clear b2 b3 b4
      go_wp2_with fail
      refine wp_loop_rounds 1 ?_
      rw [rounds_succ]
      go_wp2_with (go_at_call 20; refine (middle_any _).mono ?_; rintro e w5 ⟨rfl, hb5⟩)
      go_ret
      exact ⟨rfl, b5.trans (Below.mono (by assumption) b5.size)⟩
    · have hcell' : ∀ j u, (ents l)[j]? = some u → w.cell? (ad.add j) = some u := by
        intro j u hj
        have hp : 0 < l.length := by
          rcases Nat.eq_zero_or_pos l.length with h0 | h0
          · obtain rfl : l = [] := List.eq_nil_of_length_eq_zero h0
            simp [ents] at hj
          · exact h0
        obtain ⟨b, off, hb, _, hc⟩ := hcells hp
        injection hb with hb
        subst hb
        have := hc j u hj
        rw [show (⟨b, off, none⟩ : Addr).add j = ⟨b, off + j, none⟩ from by unfold Addr.add; split; (next h => subst h; rfl); rfl]
        exact this
      have one : ∀ u ∈ ents l, u.oneCell' = true := by
        intro u hu
        simp [ents, Ent.cells] at hu
        obtain ⟨e, _, rfl | rfl | rfl⟩ := hu <;> rfl
      have HCA := Lib.hid hcell'
      have ONE := Lib.hid one
      clear hcells hcell' one
      go_enter Try.func7, Try.ntmps7
      go_wp2_with (at_builtin; refine wpList_append_own _ rfl _ _ 32 rfl w.heap.size 37 i37 _ 3 24 Try.underlying32 hi hz0 hz1 hz2 rfl (by decide) _ _ _ rfl (World.ownsRow_nil _ _ _ _) ad l.length c (ents l) rfl hlen HCA.out ONE.out (by unfold maxLen; omega) (by omega) (by omega) ?_; intro v' w1 hown' hgrow _)
      have hown2 : w1.ownsRow w.heap.size 37 3 v' l.length (ents l) := by simpa using hown'
      have hb1 : Below w.heap.size w w1 := (Below.refl _ _).grown hgrow (Nat.le_refl _) (fun k hk => by cases hk)
      clear hown' hgrow
      obtain ⟨r1, r2, r3⟩ := rest l (some ad) c w w1 v' H0.out (by omega) hown2 hb1
      have R1 := Lib.hid r1
      have R2 := Lib.hid r2
      clear r2 r1
      refine (make_any l _ _ R1.out (by omega)).mono ?_
      rintro e w2 ⟨v2, rfl, s2, b2⟩
      go_wp2_with fail
      refine (ref_make l _ _ ((R2.out.below b2).more b2.size) (by omega)).mono ?_
      rintro e w3 ⟨v3, rfl, s3, b3⟩
      go_wp2_with fail
      refine (same_eq (mk l) _ _ _ ((s2.below b3).more b3.size) s3 r3).mono ?_
      rintro e w4 ⟨rfl, b4⟩
      clear s2 s3
      have b5 : Below w1.heap.size w1 w4 := (b2.trans (b3.mono b2.size)).trans (b4.mono (Nat.le_trans b2.size b3.size))
      have b14 := b5.size
      clear b2 b3 b4 hown2
      obtain ⟨_, A1, cc1, e1, hc1⟩ := R1.out
      obtain ⟨_, A2, cc2, e2, hc2⟩ := R2.out
      injection e2 with e2 _ _
      subst e1 e2
      have HC1 := Lib.hid hc1
      have HC2 := Lib.hid hc2
      clear hc1 hc2 HCA HC
      go_wp2_with fail
      go_loopw [4] (fun i wr => ∃ k : Nat, k ≤ l.length ∧ i = .int .i64 k ∧ Below w1.heap.size w1 wr) (fun i _ => l.length - (intOf i).toNat)
      case atStart => exact ⟨0, Nat.zero_le _, rfl, b5⟩
      case round =>
        obtain ⟨k, hk, rfl, hbel⟩ := hrel
        by_cases hlt : k < l.length
        · obtain ⟨b, off, rfl, hb, hcell⟩ := HC1.out (by omega)
          obtain ⟨b2, off2, hq, hb2, hcell2⟩ := HC2.out (by omega)
          injection hq with hq
          subst hq
          obtain ⟨c0, c1, c2⟩ := ent_cells (w := wr) (fun j u h => (hbel.cell (p := ⟨b, off + j, none⟩) hb).trans (hcell j u h)) k hlt
          obtain ⟨d0, d1, d2⟩ := ent_cells (w := wr) (fun j u h => (hbel.cell (p := ⟨b2, off2 + j, none⟩) hb2).trans (hcell2 j u h)) k hlt
          obtain ⟨m, hm⟩ : ∃ m, l[k] = m := ⟨_, rfl⟩
          rw [hm] at c0 c1 c2 d0 d1 d2
          have hi1 : (0 : Int) ≤ (k : Int) ∧ (k : Int) < (l.length : Int) := by omega
          clear hm hcell hcell2
          go_wp2_with fail
          go_region
          go_wp2_with fail
          go_roundw
          case rel => exact ⟨k + 1, by omega, by go_num, by go_grown⟩
          case measure => simp [intOf]; omega
        · go_wp2_with (go_at_call 20; refine (middle_any _).mono ?_; rintro e w5 ⟨rfl, hb5⟩)
          go_ret
          exact ⟨rfl, hb1.trans (Below.mono (hbel.trans (Below.mono (by assumption) hbel.size)) hb1.size)⟩
end Go.Proofs.Ytgfokkkkkeaheaa.midsMake
