/- The walk of GaugeParts. -/
import Derived.Test.YtimalebcbfhgaaaW28e
import Derived.Test.YtimalebcbfhgaaaOpen04
import Derived.Test.YtimalebcbfhgaaaPlainG
import Derived.Test.YtimalebcbfhgaaaAppSlc
namespace Go.Proofs.Ytimalebcbfhgaaa
open Go.RowKit Fl Wt
namespace Wt
theorem same_self5 (x : Nat) : sameB x x = true := by unfold sameB; simp
theorem tcs_one (l : List (Nat × Nat)) : ∀ u ∈ tcs l, u.oneCell' = true := by
  intro u hu
  unfold tcs at hu
  obtain ⟨p, _, hp⟩ := List.mem_flatMap.1 hu
  simp [tcell] at hp
  rcases hp with rfl | rfl | rfl | rfl | rfl <;> rfl
end Wt
namespace gaugeParts
attribute [local go_sem] run_store_number
theorem blk_new (w : World) (t : TypeId) (cs : Array Value) (g : Nat) (h : w.heap.size = g) : Blk (w.alloc (.cells cs t)) g t cs := by subst h; exact Blk.made _ _ _
set_option maxHeartbeats 4000000 in
theorem walk (l : List Nat) (v : Value) (m : List Nat) (v2 : Value) (w : World) (h : Slc w w.heap.size 1 v l.length (u64s l)) (hl : ∀ x ∈ l, x < 2 * S) (h2 : Slc w w.heap.size 1 v2 m.length (u64s m)) (hm : ∀ x ∈ m, x < 2 * S) :
    Calls Try.prog 10 #[v, v2] w fun e w' => e = .returned (.bool true) ∧ Below w.heap.size w w' := by
  have H0 := Lib.hid h
  have HL := Lib.hid hl
  have K0 := Lib.hid h2
  have KL := Lib.hid hm
  obtain ⟨i50, hi, hz0, hz1, hz2⟩ := info_parts info50
  obtain ⟨_, A, c, rfl, _⟩ := h
  obtain ⟨_, A2, c2, rfl, _⟩ := h2
  clear hl hm
  by_cases hbig : 60 < l.length
  · have d1 : decide (60 < (l.length : Int)) = true := decide_eq_true (by omega)
    go_enter Try.func10, Try.ntmps10
    go_wp2_with fail
    refine (gauged_any _).mono ?_; rintro e w3 ⟨rfl, hb3⟩
    go_wp2_with fail
    go_ret
    exact ⟨rfl, hb3⟩
  have d1 : decide (60 < (l.length : Int)) = false := decide_eq_false (by omega)
  by_cases hbig2 : 60 < m.length
  · have d2 : decide (60 < (m.length : Int)) = true := decide_eq_true (by omega)
    go_enter Try.func10, Try.ntmps10
    go_wp2_with fail
    refine (gauged_any _).mono ?_; rintro e w3 ⟨rfl, hb3⟩
    go_wp2_with fail
    go_ret
    exact ⟨rfl, hb3⟩
  have d2 : decide (60 < (m.length : Int)) = false := decide_eq_false (by omega)
  have ZL : Hid (l.zipIdx.length ≤ 1000) := by show l.zipIdx.length ≤ 1000; rw [List.length_zipIdx]; omega
  have ZM : Hid (m.zipIdx.length ≤ 1000) := by show m.zipIdx.length ≤ 1000; rw [List.length_zipIdx]; omega
  have ZB : Hid ((l.zipIdx ++ m.zipIdx).length ≤ 1000) := by show (l.zipIdx ++ m.zipIdx).length ≤ 1000; rw [List.length_append, List.length_zipIdx, List.length_zipIdx]; omega
  have PL := Lib.hid (zip_lt HL.out)
  have PM := Lib.hid (zip_lt KL.out)
  have PB : Hid (∀ p ∈ l.zipIdx ++ m.zipIdx, p.1 < 2 * S) := fun p hp => (List.mem_append.1 hp).elim (PL.out p) (PM.out p)
  go_enter Try.func10, Try.ntmps10
  go_wp2_with fail
  refine (told_any l _ w H0.out (by omega)).mono ?_
  rintro e w1 ⟨v1, rfl, hown1, hb1⟩
  go_wp2_with fail
  refine (of_any l.zipIdx v1 w1 (Slc.of_own hown1) ZL.out PL.out).mono ?_
  rintro e w2 ⟨g1, rfl, hg1, hb2⟩
  obtain ⟨s1, p1, q1, o1, rfl, _, e1⟩ := hg1
  have hb02 := hb1.trans (hb2.mono hb1.size)
  have E1 := Lib.hid e1
  clear hb1 hb2 hown1 e1
  unfold gval
  go_wp2_with fail
  refine (told_any m _ w2 ((K0.out.below hb02).more hb02.size) (by omega)).mono ?_
  rintro e w3 ⟨v3, rfl, hown3, hb3⟩
  go_wp2_with fail
  refine (of_any m.zipIdx v3 w3 (Slc.of_own hown3) ZM.out PM.out).mono ?_
  rintro e w4 ⟨g2, rfl, hg2, hb4⟩
  obtain ⟨s2, p2, q2, o2, rfl, _, e2⟩ := hg2
  have hb04 := hb02.trans ((hb3.trans (hb4.mono hb3.size)).mono hb02.size)
  have E2 := Lib.hid e2
  clear hb3 hb4 hown3 e2 hb02
  unfold gval
  go_wp2_with fail
  obtain ⟨wx, hx⟩ : ∃ wx, (w4.alloc (.cells #[.int .i64 (l.zipIdx.length : Int), .int .i64 (nons l.zipIdx : Int), .float .f64 s1, .float .f64 p1, .float .f64 q1] 43)).alloc (.cells #[.int .i64 (m.zipIdx.length : Int), .int .i64 (nons m.zipIdx : Int), .float .f64 s2, .float .f64 p2, .float .f64 q2] 43) = wx := ⟨_, rfl⟩
  have hA : Blk wx w4.heap.size 43 #[.int .i64 (l.zipIdx.length : Int), .int .i64 (nons l.zipIdx : Int), .float .f64 s1, .float .f64 p1, .float .f64 q1] := by rw [← hx]; exact (Blk.made _ _ _).alloc _
  have hB : Blk wx (w4.heap.size + 1) 43 #[.int .i64 (m.zipIdx.length : Int), .int .i64 (nons m.zipIdx : Int), .float .f64 s2, .float .f64 p2, .float .f64 q2] := by rw [← hx]; exact blk_new _ _ _ _ (by simp)
  have hb0x : Below w.heap.size w wx := by rw [← hx]; exact (hb04.alloc hb04.size _).alloc (by have := hb04.size; simp; omega) _
  rw [List.length_zipIdx] at hA hB
  have hx' := hx
  rw [List.length_zipIdx, List.length_zipIdx] at hx'
  first | rw [hx'] | rw [hx]
  generalize w4.heap.size = A at hA hB ⊢
  clear hx hx' hb04
  refine (told_any l _ wx ((H0.out.below hb0x).more hb0x.size) (by omega)).mono ?_
  rintro e w5 ⟨v5, rfl, hown5, hb5⟩
  have hb05 := hb0x.trans (hb5.mono hb0x.size)
  have hA5 := hA.below hb5 hA.lt
  have hB5 := hB.below hb5 hB.lt
  have O5 := Lib.hid hown5
  have HX := Lib.hid hb0x.size
  have LAX := Lib.hid hA.lt
  have LBX := Lib.hid hB.lt
  have A5 := Lib.hid hA5
  have B5 := Lib.hid hB5
  have S5 := Lib.hid hb5.size
  clear hown5 hA hB hb5 hb0x hA5 hB5
  go_wp2_with fail
  refine (told_any m _ w5 ((K0.out.below hb05).more hb05.size) (by omega)).mono ?_
  rintro e w6 ⟨v6, rfl, hown6, hb6⟩
  have hb06 := hb05.trans (hb6.mono hb05.size)
  have hA6 := A5.out.below hb6 A5.out.lt
  have hB6 := B5.out.below hb6 B5.out.lt
  have O56 := Lib.hid (own_keep O5.out hb6)
  have O6 := Lib.hid hown6
  have LA := Lib.hid A5.out.lt
  have LB := Lib.hid B5.out.lt
  have S56 := Lib.hid hb6.size
  have A6 := Lib.hid hA6
  have B6 := Lib.hid hB6
  clear hown6 hb6 hb05 hA6 hB6 A5 B5 O5
  go_wp2_with (at_builtin; refine wpList_append_slc _ rfl (.tmp 26) (.tmp 28) 39 rfl _ 50 i50 _ 5 64 Try.underlying39 hi hz0 hz1 hz2 rfl (by decide) _ _ _ rfl O56.out _ _ _ _ rfl (Slc.of_own O6.out) (tcs_one _) (by have h1 := ZL.out; have h2 := ZM.out; unfold maxLen; omega) (by have h1 := ZL.out; have h2 := ZM.out; omega) (Nat.le_trans S5.out S56.out) ?_; intro v7 w7 own7 grow7 _)
  have hA7 := A6.out.grown grow7 (own_ne O56.out LAX.out)
  have hB7 := B6.out.grown grow7 (own_ne O56.out LBX.out)
  have hb07 : Below w.heap.size w w7 := hb06.grown grow7 hb06.size (fun j hj => Nat.le_trans HX.out (O56.out.lt j hj).1)
  have hown7 : Slc w7 w7.heap.size 5 v7 (l.zipIdx ++ m.zipIdx).length (tcs (l.zipIdx ++ m.zipIdx)) := by rw [List.length_append, tcs_append]; exact Slc.of_own own7
  have A7 := Lib.hid hA7
  have B7 := Lib.hid hB7
  have O7 := Lib.hid hown7
  clear hA7 hB7 hown7 own7 grow7 hb06 A6 B6 O56 O6 LA LB S5 S56
  refine (of_any (l.zipIdx ++ m.zipIdx) v7 w7 O7.out ZB.out PB.out).mono ?_
  rintro e w8 ⟨g3, rfl, hg3, hb8⟩
  obtain ⟨s3, p3, q3, o3, rfl, _, e3⟩ := hg3
  rw [nums_append] at e3
  rw [nons_append, List.length_append, List.length_zipIdx, List.length_zipIdx]
  have E3 := Lib.hid e3
  have hb08 := hb07.trans (hb8.mono hb07.size)
  have hA8 := A7.out.below hb8 A7.out.lt
  have hB8 := B7.out.below hb8 B7.out.lt
  clear e3 hb07 hb8 A7 B7 O7
  unfold gval
  have cnt1 := nums_count l.zipIdx
  have cnt2 := nums_count m.zipIdx
  rw [List.length_zipIdx] at cnt1 cnt2
  have hn1 := nums_lt PL.out
  have hn2 := nums_lt PM.out
  have HN1 := Lib.hid hn1
  have HN2 := Lib.hid hn2
  clear hn1 hn2
  generalize nons l.zipIdx = n1 at *
  generalize nons m.zipIdx = n2 at *
  have hb1' : n1 ≤ l.length := by omega
  have hb2' : n2 ≤ m.length := by omega
  have hcast : ((l.length + m.length : Nat) : Int) = (l.length : Int) + (m.length : Int) := by omega
  have hcast2 : ((n1 + n2 : Nat) : Int) = (n1 : Int) + (n2 : Int) := by omega
  rw [hcast, hcast2]
  have a0 : w8.cell? ⟨A, 0, none⟩ = some (.int .i64 (l.length : Int)) := hA8.cell 0
  have a1 : w8.cell? ⟨A, 1, none⟩ = some (.int .i64 (n1 : Int)) := hA8.cell 1
  have a3 : w8.cell? ⟨A, 3, none⟩ = some (.float .f64 p1) := hA8.cell 3
  have a4 : w8.cell? ⟨A, 4, none⟩ = some (.float .f64 q1) := hA8.cell 4
  have b0 : w8.cell? ⟨A + 1, 0, none⟩ = some (.int .i64 (m.length : Int)) := hB8.cell 0
  have b1 : w8.cell? ⟨A + 1, 1, none⟩ = some (.int .i64 (n2 : Int)) := hB8.cell 1
  have b3 : w8.cell? ⟨A + 1, 3, none⟩ = some (.float .f64 p2) := hB8.cell 3
  have b4 : w8.cell? ⟨A + 1, 4, none⟩ = some (.float .f64 q2) := hB8.cell 4
  have lA := hA8.lt
  have lB := hB8.lt
  have bZ : Below w.heap.size w (w8.alloc (.cells #[.int .i64 ((l.length : Int) + (m.length : Int)), .int .i64 ((n1 : Int) + (n2 : Int)), .float .f64 s3, .float .f64 p3, .float .f64 q3] 43)) := hb08.alloc hb08.size _
  clear hA8 hB8 hcast hcast2 hb08
  by_cases x1 : n1 = l.length
  · have y1 : ((l.length : Int) == (n1 : Int)) = true := by rw [beq_iff_eq]; omega
    clear x1 cnt1 cnt2
    go_wp2_with fail
    refine (gauged_any _).mono ?_; rintro e w3 ⟨rfl, hb3⟩
    go_wp2_with fail
    go_ret
    exact ⟨rfl, bZ.trans (hb3.mono bZ.size)⟩
  have y1 : ((l.length : Int) == (n1 : Int)) = false := by rw [beq_eq_false_iff_ne]; omega
  by_cases x2 : n2 = m.length
  · have y2 : ((m.length : Int) == (n2 : Int)) = true := by rw [beq_iff_eq]; omega
    clear x1 x2 cnt1 cnt2
    go_wp2_with fail
    refine (gauged_any _).mono ?_; rintro e w3 ⟨rfl, hb3⟩
    go_wp2_with fail
    go_ret
    exact ⟨rfl, bZ.trans (hb3.mono bZ.size)⟩
  have y2 : ((m.length : Int) == (n2 : Int)) = false := by rw [beq_eq_false_iff_ne]; omega
  have ne1 : nums l.zipIdx ≠ [] := by intro h; rw [h] at cnt1; simp at cnt1; omega
  have ne2 : nums m.zipIdx ≠ [] := by intro h; rw [h] at cnt2; simp at cnt2; omega
  have ne3 : nums l.zipIdx ++ nums m.zipIdx ≠ [] := by simp [ne1]
  obtain ⟨f1, g1⟩ := ends_is ne1 E1.out
  obtain ⟨f2, g2⟩ := ends_is ne2 E2.out
  obtain ⟨f3, g3⟩ := ends_is ne3 E3.out
  rw [eLo_append HN1.out HN2.out ne1 ne2, ← f1, ← f2] at f3
  rw [eHi_append HN1.out HN2.out ne1 ne2, ← g1, ← g2] at g3
  have t1 : p1 < 2 * S := by rw [f1]; exact HN1.out _ (eLo_spec ne1).1
  have t2 : p2 < 2 * S := by rw [f2]; exact HN2.out _ (eLo_spec ne2).1
  have t3 : q1 < 2 * S := by rw [g1]; exact HN1.out _ (eHi_spec ne1).1
  have t4 : q2 < 2 * S := by rw [g2]; exact HN2.out _ (eHi_spec ne2).1
  clear ne1 ne2 ne3 f1 f2 g1 g2 cnt1 cnt2 x1 x2 E1 E2 E3 HN1 HN2
  have L1 := Lib.hid (less_any p2 p1 t2 t1)
  have L2 := Lib.hid (less_any q1 q2 t3 t4)
  have s5 := same_self5 p3
  have s6 := same_self5 q3
  clear t1 t2 t3 t4
  generalize lessB p2 p1 = z1 at L1 f3
  generalize lessB q1 q2 = z2 at L2 g3
  cases z1 <;> cases z2
  all_goals
    simp only [if_true, if_false, Bool.false_eq_true] at f3 g3
    subst f3 g3
    go_wp2_with fail
    go_region
    go_wp2_with fail
    refine (L1.out _).mono ?_; rintro e w' ⟨rfl, rfl⟩
    go_wp2_with fail
    refine (L2.out _).mono ?_; rintro e w' ⟨rfl, rfl⟩
    go_wp2_with fail
    refine (same_any _ _ _).mono ?_; rintro e w' ⟨rfl, rfl⟩
    go_wp2_with fail
    refine (same_any _ _ _).mono ?_; rintro e w' ⟨rfl, rfl⟩
    go_wp2_with fail
    refine (gauged_any _).mono ?_; rintro e w3 ⟨rfl, hb3⟩
    go_wp2_with fail
    go_ret
    exact ⟨rfl, (Below.drew bZ).trans (hb3.mono bZ.size)⟩
end gaugeParts
end Go.Proofs.Ytimalebcbfhgaaa
