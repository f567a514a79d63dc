/- The walk of WeightsList. -/
import Derived.Test.YtimalebcbfhgaaaW04f
import Derived.Test.YtimalebcbfhgaaaOpen04
namespace Go.Proofs.Ytimalebcbfhgaaa
open Go.RowKit Fl Wt
namespace Wt
theorem endsV_form (l : List Nat) (hl : ∀ f ∈ l, f < 2 * S) : ∃ p q b, endsV l = .tuple #[.float .f64 p, .float .f64 q, .bool b] ∧ p < 2 * S ∧ q < 2 * S := by
  by_cases h : l = []
  · subst h
    exact ⟨0, 0, false, rfl, by decide, by decide⟩
  · refine ⟨eLo l, eHi l, true, ?_, hl _ (eLo_spec h).1, hl _ (eHi_spec h).1⟩
    unfold endsV
    rw [if_neg (by simpa using h)]
theorem same_refl (x : Nat) : sameB x x = true := by unfold sameB; simp
theorem like_sums {l : List Nat} {x y : Nat} (hx : IsSum l x) (hy : IsSum l y) : (sameB x y || nan x && nan y) = true := by
  cases h : fsum l with
  | some c => rw [hx.at_some h, hy.at_some h, same_refl]; rfl
  | none => rw [hx.at_none h, hy.at_none h]; simp
end Wt
namespace weightsList
set_option maxHeartbeats 1000000 in
theorem walk (l : List Nat) (v : Value) (w : World) (h : Slc w w.heap.size 1 v l.length (u64s l)) (hl : ∀ x ∈ l, x < 2 * S) :
    Calls Try.prog 3 #[v] w fun e w' => e = .returned (.bool true) ∧ Below w.heap.size w w' := by
  have H0 := Lib.hid h
  have HL := Lib.hid hl
  obtain ⟨hlen, A, c, rfl, hcells⟩ := h
  have HC := Lib.hid hcells
  clear hcells hlen hl
  by_cases hbig : 300 < l.length
  · go_enter Try.func3, Try.ntmps3
    go_wp2_with fail
    refine (weighed_any _).mono ?_; rintro e w3 ⟨rfl, hb3⟩
    go_wp2_with fail
    go_ret
    exact ⟨rfl, hb3⟩
  · obtain ⟨p, q, b, hE, hp, hq⟩ := endsV_form l HL.out
    have HE := Lib.hid hE
    have hpp := same_refl p
    have hqq := same_refl q
    have hbb : (b != b) = false := by simp
    clear hE
    go_enter Try.func3, Try.ntmps3
    go_wp2_with fail
    refine (floats_any l _ w H0.out (by omega)).mono ?_
    rintro e w1 ⟨v1, rfl, hown1, hb1⟩
    have HS1 := Lib.hid (Slc.of_own hown1)
    clear hown1
    go_wp2_with fail
    refine (ends_any l v1 w1 HS1.out (by omega) HL.out).mono ?_
    rintro e w2 ⟨rfl, hb2⟩
    rw [HE.out]
    have hb02 := hb1.trans (hb2.mono hb1.size)
    have HS2 := Lib.hid ((HS1.out.below hb2).more hb2.size)
    clear hb1 hb2 HS1
    go_wp2_with fail
    refine (floats_any l _ w2 ((H0.out.below hb02).more hb02.size) (by omega)).mono ?_
    rintro e w3 ⟨v3, rfl, hown3, hb3⟩
    have HS3 := Lib.hid (Slc.of_own hown3)
    have hb03 := hb02.trans (hb3.mono hb02.size)
    have HS23 := Lib.hid ((HS2.out.below hb3).more hb3.size)
    clear hown3 hb02 hb3 HS2
    go_wp2_with fail
    refine (refends_any l v3 w3 HS3.out (by omega) HL.out).mono ?_
    rintro e w4 ⟨rfl, hb4⟩
    rw [HE.out]
    have hb04 := hb03.trans (hb4.mono hb03.size)
    have HS24 := Lib.hid ((HS23.out.below hb4).more hb4.size)
    clear hb03 hb4 HS23 HS3
    go_wp2_with fail
    refine (refsame_any _ _ hp hp _).mono ?_; rintro e w' ⟨rfl, rfl⟩
    go_wp2_with fail
    refine (refsame_any _ _ hq hq _).mono ?_; rintro e w' ⟨rfl, rfl⟩
    go_wp2_with fail
    refine (sum_any l v1 w4 HS24.out (by omega)).mono ?_
    rintro e w5 ⟨x, rfl, hx, hb5⟩
    have HX := Lib.hid hx
    have hx2 := hx.1
    have hb05 := hb04.trans (hb5.mono hb04.size)
    have HS25 := Lib.hid ((HS24.out.below hb5).more hb5.size)
    clear hx hb04 hb5 HS24
    go_wp2_with fail
    refine (floats_any l _ w5 ((H0.out.below hb05).more hb05.size) (by omega)).mono ?_
    rintro e w6 ⟨v6, rfl, hown6, hb6⟩
    have HS6 := Lib.hid (Slc.of_own hown6)
    have hb06 := hb05.trans (hb6.mono hb05.size)
    have HS26 := Lib.hid ((HS25.out.below hb6).more hb6.size)
    clear hown6 hb05 hb6 HS25
    go_wp2_with fail
    refine (ref_sum l v6 w6 HS6.out (by omega)).mono ?_
    rintro e w7 ⟨y, rfl, hy, hb7⟩
    have hlike := like_sums HX.out hy
    have hy2 := hy.1
    have hb07 := hb06.trans (hb7.mono hb06.size)
    have HS27 := Lib.hid ((HS26.out.below hb7).more hb7.size)
    clear hy hb06 hb7 HS26 HS6 HX
    go_wp2_with fail
    refine (like_any _ _ hx2 hy2 _).mono ?_; rintro e w' ⟨rfl, rfl⟩
    rw [hlike]
    clear hlike
    go_wp2_with fail
    obtain ⟨_, A1, c1, rfl, hcells1⟩ := HS27.out
    have HC1 := Lib.hid hcells1
    clear hcells1 HS27 hpp hqq hp hq hx2 hy2 hbb
    go_loopw [10] (fun i wr => ∃ k : Nat, k ≤ l.length ∧ i = .int .i64 k ∧ Below w7.heap.size w7 wr) (fun i _ => l.length - (intOf i).toNat)
    case atStart => exact ⟨0, Nat.zero_le _, rfl, Below.refl _ _⟩
    case round =>
      obtain ⟨k, hk, rfl, hbel⟩ := hrel
      have hbs := hbel.size
      by_cases hlt : k < l.length
      · obtain ⟨b0, off0, rfl, hlt0, hcell0⟩ := HC.out (by omega)
        obtain ⟨b1, off1, rfl, hlt1, hcell1⟩ := HC1.out (by omega)
        have hb07s := hb07.size
        have ck0 : wr.cell? ⟨b0, off0 + k, none⟩ = some (.int .u64 (l[k] : Int)) := (hbel.cell (p := ⟨b0, off0 + k, none⟩) (by show b0 < _; omega)).trans ((hb07.cell (p := ⟨b0, off0 + k, none⟩) hlt0).trans (hcell0 k _ (u64s_get hlt)))
        have ck1 : wr.cell? ⟨b1, off1 + k, none⟩ = some (.float .f64 l[k]) := (hbel.cell (p := ⟨b1, off1 + k, none⟩) hlt1).trans (hcell1 k _ (fls_get hlt))
        have hki : (0 : Int) ≤ (k : Int) ∧ (k : Int) < (l.length : Int) := by omega
        generalize l[k] = f at ck0 ck1
        have hfb := f64bits f
        clear hcell0 hcell1 HC HC1
        go_wp2_with fail
        go_quiet (fail)
        go_wp2_with fail
        go_roundw
        case rel => exact ⟨k + 1, by omega, by go_num, below_any hbel hbs _⟩
        case measure => simp [intOf]; omega
      · go_wp2_with fail
        refine (weighed_any _).mono ?_; rintro e w3 ⟨rfl, hb3⟩
        go_wp2_with fail
        go_ret
        exact ⟨rfl, hb07.trans ((hbel.trans (hb3.mono hbs)).mono hb07.size)⟩
end weightsList
end Go.Proofs.Ytimalebcbfhgaaa
