/- The walk of GaugeTell. -/
import Derived.Test.YtimalebcbfhgaaaW28e
import Derived.Test.YtimalebcbfhgaaaOpen04
namespace Go.Proofs.Ytimalebcbfhgaaa
open Go.RowKit Fl Wt
namespace Wt
theorem ends_lt {l : List Nat} {a b : Nat} {ok : Bool} (hl : ∀ f ∈ l, f < 2 * S) (h : endsV l = .tuple #[.float .f64 a, .float .f64 b, .bool ok]) : a < 2 * S ∧ b < 2 * S := by
  unfold endsV at h
  by_cases hn : l.isEmpty = true
  · rw [if_pos hn] at h
    simp at h
    obtain ⟨rfl, rfl, _⟩ := h
    exact ⟨by decide, by decide⟩
  · rw [if_neg hn] at h
    simp at h
    obtain ⟨rfl, rfl, _⟩ := h
    have hne : l ≠ [] := by simpa using hn
    exact ⟨hl _ (eLo_spec hne).1, hl _ (eHi_spec hne).1⟩
theorem sum_sumB {l : List Nat} {x y : Nat} (hx : IsSum l x) (hy : IsSum l y) : sumB x y = true := by
  unfold sumB
  cases h : fsum l with
  | some c => rw [hx.at_some h, hy.at_some h]; unfold sameB; simp
  | none => rw [hx.at_none h, hy.at_none h]; simp
theorem like_gs (l : List (Nat × Nat)) (hl : ∀ p ∈ l, p.1 < 2 * S) (g1 g2 : Value) (h1 : IsG l g1) (h2 : IsG l g2) (w : World) :
    Calls Try.prog 34 #[g1, g2] w fun e w' => e = .returned (.bool true) ∧ Below w.heap.size w w' := by
  obtain ⟨s1, a1, b1, o1, rfl, k1, e1⟩ := h1
  obtain ⟨s2, a2, b2, o2, rfl, k2, e2⟩ := h2
  obtain ⟨p1, p2⟩ := ends_lt (nums_lt hl) e1
  have hs := sum_sumB k1 k2
  rw [e1] at e2
  simp at e2
  obtain ⟨rfl, rfl, _⟩ := e2
  refine (like28_any l.length (nons l) s1 a1 b1 l.length (nons l) s2 a1 b1 k1.1 k2.1 p1 p1 p2 p2 w).mono fun e w' ⟨he, hb⟩ => ⟨?_, hb⟩
  rw [he]
  unfold gsameB
  rw [hs]
  unfold sameB
  simp
end Wt
namespace gaugeTell
set_option maxHeartbeats 1000000 in
theorem walk (l : List Nat) (v : Value) (w : World) (h : Slc w w.heap.size 1 v l.length (u64s l)) (hl : ∀ x ∈ l, x < 2 * S) :
    Calls Try.prog 9 #[v] w fun e w' => e = .returned (.bool true) ∧ Below w.heap.size w w' := by
  have H0 := Lib.hid h
  have HL := Lib.hid hl
  obtain ⟨hlen, A, c, rfl, hcells⟩ := h
  have HC := Lib.hid hcells
  clear hcells hlen hl
  by_cases hbig : 200 < l.length
  · go_enter Try.func9, Try.ntmps9
    go_wp2_with fail
    refine (gauged_any _).mono ?_; rintro e w3 ⟨rfl, hb3⟩
    go_wp2_with fail
    go_ret
    exact ⟨rfl, hb3⟩
  · have hzl : l.zipIdx.length ≤ 1000 := by rw [List.length_zipIdx]; omega
    have HZL := Lib.hid hzl
    clear hzl
    go_enter Try.func9, Try.ntmps9
    go_wp2_with fail
    refine (told_any l _ w H0.out (by omega)).mono ?_
    rintro e w1 ⟨v1, rfl, hown1, hb1⟩
    have HS1 := Lib.hid (Slc.of_own hown1)
    clear hown1
    go_wp2_with fail
    refine (of_any l.zipIdx v1 w1 HS1.out HZL.out (zip_lt HL.out)).mono ?_
    rintro e w2 ⟨g1, rfl, hg1, hb2⟩
    have hb02 := hb1.trans (hb2.mono hb1.size)
    have HS2 := Lib.hid ((HS1.out.below hb2).more hb2.size)
    have HG1 := Lib.hid hg1
    clear hb1 hb2 HS1 hg1
    go_wp2_with fail
    refine (told_any l _ w2 ((H0.out.below hb02).more hb02.size) (by omega)).mono ?_
    rintro e w3 ⟨v3, rfl, hown3, hb3⟩
    have HS3 := Lib.hid (Slc.of_own hown3)
    have hb03 := hb02.trans (hb3.mono hb02.size)
    have HS23 := Lib.hid ((HS2.out.below hb3).more hb3.size)
    clear hown3 hb02 hb3 HS2
    go_wp2_with fail
    refine (refof_any l.zipIdx v3 w3 HS3.out HZL.out (zip_lt HL.out)).mono ?_
    rintro e w4 ⟨g2, rfl, hg2, hb4⟩
    have hb04 := hb03.trans (hb4.mono hb03.size)
    have HS24 := Lib.hid ((HS23.out.below hb4).more hb4.size)
    have HG2 := Lib.hid hg2
    clear hb03 hb4 HS23 HS3 hg2
    go_wp2_with fail
    refine (like_gs l.zipIdx (zip_lt HL.out) g1 g2 HG1.out HG2.out _).mono ?_
    rintro e w7 ⟨rfl, hb7⟩
    have hb07 := hb04.trans (hb7.mono hb04.size)
    have HS27 := Lib.hid ((HS24.out.below hb7).more hb7.size)
    clear hb04 hb7 HS24 HG1 HG2
    go_wp2_with fail
    obtain ⟨_, A1, c1, rfl, hcells1⟩ := HS27.out
    have HC1 := Lib.hid hcells1
    clear hcells1 HS27
    rw [List.length_zipIdx] at HC1
    generalize hz : l.zipIdx.length = zl
    have hzz : zl = l.length := by rw [← hz, List.length_zipIdx]
    subst hzz
    clear hz
    go_loopw [4] (fun i wr => ∃ k : Nat, k ≤ l.length ∧ i = .int .i64 k ∧ Below w7.heap.size w7 wr) (fun i _ => l.length - (intOf i).toNat)
    case atStart => exact ⟨0, Nat.zero_le _, rfl, Below.refl _ _⟩
    case round =>
      obtain ⟨k, hk, rfl, hbel⟩ := hrel
      have hbs := hbel.size
      by_cases hlt : k < l.length
      · obtain ⟨b0, off0, rfl, hlt0, hcell0⟩ := HC.out (by omega)
        obtain ⟨b1, off1, rfl, hlt1, hcell1⟩ := HC1.out (by omega)
        have hb07s := hb07.size
        have ck0 : wr.cell? ⟨b0, off0 + k, none⟩ = some (.int .u64 (l[k] : Int)) := (hbel.cell (p := ⟨b0, off0 + k, none⟩) (by show b0 < _; omega)).trans ((hb07.cell (p := ⟨b0, off0 + k, none⟩) hlt0).trans (hcell0 k _ (u64s_get hlt)))
        have hkz : k < l.zipIdx.length := by rw [List.length_zipIdx]; exact hlt
        have hcr : ∀ j u, (tcs l.zipIdx)[j]? = some u → wr.cell? ⟨b1, off1 + j, none⟩ = some u := fun j u hj => (hbel.cell (p := ⟨b1, off1 + j, none⟩) hlt1).trans (hcell1 j u hj)
        obtain ⟨t0, t1, t2, t3, t4⟩ := tcell_at hcr k hkz
        rw [List.getElem_zipIdx] at t1 t4
        simp only [Nat.zero_add] at t1 t4
        have hki : (0 : Int) ≤ (k : Int) ∧ (k : Int) < (l.length : Int) := by omega
        have hkk : ((k : Int) != (k : Int)) = false := by simp
        generalize l[k] = f at ck0 t4
        have hfb := f64bits f
        clear hcell0 hcell1 HC HC1 hcr hkz t0 t2 t3
        go_wp2_with fail
        go_quiet (fail)
        go_wp2_with fail
        go_roundw
        case rel => exact ⟨k + 1, by omega, by go_num, below_any hbel hbs _⟩
        case measure => simp [intOf]; omega
      · go_wp2_with fail
        refine (gauged_any _).mono ?_; rintro e w3 ⟨rfl, hb3⟩
        go_wp2_with fail
        go_ret
        exact ⟨rfl, hb07.trans ((hbel.trans (hb3.mono hbs)).mono hb07.size)⟩
end gaugeTell
end Go.Proofs.Ytimalebcbfhgaaa
