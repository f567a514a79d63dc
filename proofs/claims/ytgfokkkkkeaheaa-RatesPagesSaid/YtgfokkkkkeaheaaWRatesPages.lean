import Derived.Test.YtgfokkkkkeaheaaW05b
import Derived.Test.YtgfokkkkkeaheaaOpen
import Derived.RegionTactic
import Derived.Test.YtgfokkkkkeaheaaMem2
import Derived.Deep.QuietTactic
import Derived.BigQuiet
import Derived.Deep.DeepCutAuto
namespace Go.Proofs.Ytgfokkkkkeaheaa.ratesPages
open Go.RowKit Rt
theorem cl_in (x lo hi : Int) (h : lo ≤ hi) : lo ≤ cl x lo hi ∧ cl x lo hi ≤ hi := by unfold cl; omega
theorem cl_mono (x y lo hi : Int) (h : x ≤ y) : cl x lo hi ≤ cl y lo hi := by unfold cl; omega
theorem bits_mono (a b c d : Int) (h1 : a ≤ b) (h2 : c ≤ d) : bitsOf a c ≤ bitsOf b d := by
  have p1 := cl_in a 0 10000 (by omega)
  have p2 := cl_in c 1 16 (by omega)
  have p3 := cl_in b 0 10000 (by omega)
  have q1 := cl_mono a b 0 10000 h1
  have q2 := cl_mono c d 1 16 h2
  have := Int.mul_le_mul q1 q2 (by omega) (by omega)
  unfold bitsOf
  omega
theorem bits_in (a c : Int) : 0 ≤ bitsOf a c ∧ bitsOf a c ≤ 240000 := by
  have := mul_in (cl a 0 10000) (cl c 1 16) (cl_in a 0 10000 (by omega)) (cl_in c 1 16 (by omega))
  unfold bitsOf
  omega
set_option maxHeartbeats 2000000 in
set_option maxRecDepth 100000 in
theorem walk (x0 x1 y0 y1 : Int) (w0 : (Lit.int .i64 x0).wf = true) (w1 : (Lit.int .i64 x1).wf = true) (w2 : (Lit.int .i64 y0).wf = true) (w3 : (Lit.int .i64 y1).wf = true) (w : World) :
    Calls Try.prog 14 #[.agg #[.int .i64 x0, .int .i64 x1], .agg #[.int .i64 y0, .int .i64 y1]] w fun e w' => e = .returned (.bool true) ∧ Below w.heap.size w w' := by
  have h0 := i64_of w0
  have h1 := i64_of w1
  have h2 := i64_of w2
  have h3 := i64_of w3
  clear w0 w1 w2 w3
  obtain ⟨a, ha⟩ : ∃ a, min x0 x1 = a := ⟨_, rfl⟩
  obtain ⟨b, hb⟩ : ∃ b, max x0 x1 = b := ⟨_, rfl⟩
  obtain ⟨c, hc⟩ : ∃ c, min y0 y1 = c := ⟨_, rfl⟩
  obtain ⟨d, hd⟩ : ∃ d, max y0 y1 = d := ⟨_, rfl⟩
  have ha2 : -9223372036854775808 ≤ a ∧ a ≤ 9223372036854775807 := by omega
  have hb2 : -9223372036854775808 ≤ b ∧ b ≤ 9223372036854775807 := by omega
  have hc2 : -9223372036854775808 ≤ c ∧ c ≤ 9223372036854775807 := by omega
  have hd2 : -9223372036854775808 ≤ d ∧ d ≤ 9223372036854775807 := by omega
  have hab : a ≤ b := by omega
  have hcd : c ≤ d := by omega
  have b1 := bits_mono a b c c hab (by omega)
  have b2 := bits_mono a a c d (by omega) hcd
  have b3 := bits_mono a b c d hab hcd
  have i1 := bits_in a c
  have i2 := bits_in b c
  have i3 := bits_in a d
  have i4 := bits_in b d
  obtain ⟨p, hp⟩ : ∃ p, pg a c = p := ⟨_, rfl⟩
  obtain ⟨q, hq⟩ : ∃ q, pg b c = q := ⟨_, rfl⟩
  obtain ⟨r, hr⟩ : ∃ r, pg a d = r := ⟨_, rfl⟩
  obtain ⟨s, hs⟩ : ∃ s, pg b d = s := ⟨_, rfl⟩
  have t1 : 1 ≤ p ∧ p ≤ 500 := by rw [← hp]; unfold pg; omega
  have t2 : p ≤ q := by rw [← hp, ← hq]; unfold pg; omega
  have t3 : p ≤ r := by rw [← hp, ← hr]; unfold pg; omega
  have t4 : p ≤ s := by rw [← hp, ← hs]; unfold pg; omega
  have fin : 0 ≤ a → a ≤ 10000 → 1 ≤ c → c ≤ 16 → 0 ≤ a * c ∧ a * c ≤ 160000 ∧ a * c * 3 / 2 ≤ p * 480 ∧ (p = 1 ∨ (p - 1) * 480 < a * c * 3 / 2) := by
    intro k1 k2 k3 k4
    have hm := mul_in a c ⟨k1, k2⟩ ⟨k3, k4⟩
    have hbit : bitsOf a c = a * c * 3 / 2 := by
      unfold bitsOf
      rw [show cl a 0 10000 = a by unfold cl; omega, show cl c 1 16 = c by unfold cl; omega]
    have hpp : p = max 1 ((bitsOf a c + 480 - 1) / 480) := hp.symm
    rw [hbit] at hpp
    omega
  have C1 := Lib.hid (pages_at a c p hp)
  have C2 := Lib.hid (pages_at b c q hq)
  have C3 := Lib.hid (pages_at a d r hr)
  have C4 := Lib.hid (pages_at b d s hs)
  have FIN := Lib.hid fin
  clear hp hq hr hs fin b1 b2 b3 i1 i2 i3 i4
  have z0 : ((w.alloc (.cells #[.int .i64 x0, .int .i64 x1] 54)).alloc (.cells #[.int .i64 y0, .int .i64 y1] 54)).cell? ⟨w.heap.size, 0, none⟩ = some (.int .i64 x0) := by go_cell
  have z1 : ((w.alloc (.cells #[.int .i64 x0, .int .i64 x1] 54)).alloc (.cells #[.int .i64 y0, .int .i64 y1] 54)).cell? ⟨w.heap.size, 1, none⟩ = some (.int .i64 x1) := by go_cell
  have z2 : ((w.alloc (.cells #[.int .i64 x0, .int .i64 x1] 54)).alloc (.cells #[.int .i64 y0, .int .i64 y1] 54)).cell? ⟨w.heap.size + 1, 0, none⟩ = some (.int .i64 y0) := by go_cell
  have z3 : ((w.alloc (.cells #[.int .i64 x0, .int .i64 x1] 54)).alloc (.cells #[.int .i64 y0, .int .i64 y1] 54)).cell? ⟨w.heap.size + 1, 1, none⟩ = some (.int .i64 y1) := by go_cell
  have hW : Below w.heap.size w ((w.alloc (.cells #[.int .i64 x0, .int .i64 x1] 54)).alloc (.cells #[.int .i64 y0, .int .i64 y1] 54)) := by go_grown
  have HA := Lib.hid ha
  have HB := Lib.hid hb
  have HC := Lib.hid hc
  have HD := Lib.hid hd
  have HA2 := Lib.hid ha2
  have HB2 := Lib.hid hb2
  have HC2 := Lib.hid hc2
  have HD2 := Lib.hid hd2
  have T1 := Lib.hid t1
  have T2 := Lib.hid t2
  have T3 := Lib.hid t3
  have T4 := Lib.hid t4
  clear ha hb hc hd h0 h1 h2 h3 hab hcd ha2 hb2 hc2 hd2 t1 t2 t3 t4
  go_enter Try.func14, Try.ntmps14
  go_wp2_with fail
  generalize (w.alloc (.cells #[.int .i64 x0, .int .i64 x1] 54)).alloc (.cells #[.int .i64 y0, .int .i64 y1] 54) = wo at z0 z1 z2 z3 hW ⊢
  go_cut [5, 6] (fun p q wx => p = .int .i64 a ∧ q = .int .i64 b ∧ wx.cell? ⟨w.heap.size + 1, 0, none⟩ = some (.int .i64 y0) ∧ wx.cell? ⟨w.heap.size + 1, 1, none⟩ = some (.int .i64 y1) ∧ Below w.heap.size w wx)
  case first =>
    go_quiet (fail)
    go_wp2_with fail
    go_meet
    exact ⟨by rw [HA.out], by rw [HB.out], z2, z3, hW.trans ((below_drewN wo nq).mono hW.size)⟩
  case rest =>
    obtain ⟨rfl, rfl, y0', y1', hW1⟩ := hcut
    clear z0 z1 z2 z3 hW
    go_wp2_with fail
    go_cut [7, 8] (fun p q wx => p = .int .i64 c ∧ q = .int .i64 d ∧ Below w.heap.size w wx)
    case first =>
      go_quiet (fail)
      go_wp2_with fail
      go_meet
      exact ⟨by rw [HC.out], by rw [HD.out], hW1.trans ((below_drewN _ nq).mono hW1.size)⟩
    case rest =>
      obtain ⟨rfl, rfl, hW2⟩ := hcut
      clear y0' y1' hW1 HA HB HC HD
      go_wp2_with fail
      refine (C1.out _ HA2.out HC2.out).mono ?_; rintro e w' ⟨rfl, rfl⟩
      have d1 : decide (p < 1) = false := decide_eq_false (by have := T1.out; omega)
      have d2 : decide (500 < p) = false := decide_eq_false (by have := T1.out; omega)
      have d3 : decide (q < p) = false := decide_eq_false (by have := T2.out; omega)
      have d4 : decide (r < p) = false := decide_eq_false (by have := T3.out; omega)
      have d5 : decide (s < p) = false := decide_eq_false (by have := T4.out; omega)
      go_wp2_with fail
      refine (C2.out _ HB2.out HC2.out).mono ?_; rintro e w' ⟨rfl, rfl⟩
      go_wp2_with fail
      refine (C3.out _ HA2.out HD2.out).mono ?_; rintro e w' ⟨rfl, rfl⟩
      go_wp2_with fail
      refine (C4.out _ HB2.out HD2.out).mono ?_; rintro e w' ⟨rfl, rfl⟩
      clear C1 C2 C3 C4
      go_upto_region 6 with fail
      clear d1 d2 d3 d4 d5
      by_cases k : (0 ≤ a ∧ a ≤ 10000) ∧ 1 ≤ c ∧ c ≤ 16
      · obtain ⟨⟨k1, k2⟩, k3, k4⟩ := k
        obtain ⟨f1, f2, f3, f4⟩ := FIN.out k1 k2 k3 k4
        have tt := T1.out
        have g1 : decide (a < 0) = false := decide_eq_false (by omega)
        have g2 : decide (10000 < a) = false := decide_eq_false (by omega)
        have g3 : decide (c < 1) = false := decide_eq_false (by omega)
        have g4 : decide (16 < c) = false := decide_eq_false (by omega)
        obtain ⟨X, hX⟩ : ∃ X, a * c = X := ⟨_, rfl⟩
        rw [hX] at f1 f2 f3 f4
        have e2 : IntKind.i64.wrap (a * c) = X := by rw [hX]; exact IntWalk.i64_in _ (by omega)
        clear FIN T1 T2 T3 T4 HA2 HB2 HC2 HD2 k1 k2 k3 k4 hX
        go_wp2_with fail
        all_goals
          refine (rated_any _).mono ?_; rintro e w' ⟨rfl, rfl⟩
          go_wp2_with fail
          go_ret
          exact ⟨rfl, hW2⟩
      · clear FIN T1 T2 T3 T4 HA2 HB2 HC2 HD2
        by_cases k1 : a < 0
        · have g1 : decide (a < 0) = true := decide_eq_true k1
          clear k
          go_wp2_with fail
          refine (rated_any _).mono ?_; rintro e w' ⟨rfl, rfl⟩
          go_wp2_with fail
          go_ret
          exact ⟨rfl, hW2⟩
        have g1 : decide (a < 0) = false := decide_eq_false k1
        by_cases k2 : 10000 < a
        · have g2 : decide (10000 < a) = true := decide_eq_true k2
          clear k k1
          go_wp2_with fail
          refine (rated_any _).mono ?_; rintro e w' ⟨rfl, rfl⟩
          go_wp2_with fail
          go_ret
          exact ⟨rfl, hW2⟩
        have g2 : decide (10000 < a) = false := decide_eq_false k2
        by_cases k3 : c < 1
        · have g3 : decide (c < 1) = true := decide_eq_true k3
          clear k k1 k2
          go_wp2_with fail
          refine (rated_any _).mono ?_; rintro e w' ⟨rfl, rfl⟩
          go_wp2_with fail
          go_ret
          exact ⟨rfl, hW2⟩
        · have g3 : decide (c < 1) = false := decide_eq_false k3
          have g4 : decide (16 < c) = true := decide_eq_true (by omega)
          clear k k1 k2 k3
          go_wp2_with fail
          refine (rated_any _).mono ?_; rintro e w' ⟨rfl, rfl⟩
          go_wp2_with fail
          go_ret
          exact ⟨rfl, hW2⟩
end Go.Proofs.Ytgfokkkkkeaheaa.ratesPages
