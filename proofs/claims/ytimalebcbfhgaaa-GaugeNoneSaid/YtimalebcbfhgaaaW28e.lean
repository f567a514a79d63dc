/- The walk of gauge's examples. -/
import Derived.Test.YtimalebcbfhgaaaW28d
import Derived.Deep.RegionHeld3
namespace Go.Proofs.Ytimalebcbfhgaaa
namespace Wt
open Go.RowKit Fl
attribute [local go_sem] run_store_number
theorem zip_lt {l : List Nat} (h : ∀ x ∈ l, x < 2 * S) : ∀ p ∈ l.zipIdx, p.1 < 2 * S := by
  intro p hp
  exact h _ (List.fst_mem_of_mem_zipIdx hp)
theorem gauge_a {g : Value} (h : IsG [4609434218613702656, 9218868437227405313, 13835058055282163712].zipIdx g) : g = gval 3 1 13826050856027422720 13835058055282163712 4609434218613702656 := by
  obtain ⟨s, a, b, ok, rfl, hs, he⟩ := h
  have hn : nums ([4609434218613702656, 9218868437227405313, 13835058055282163712] : List Nat).zipIdx = [4609434218613702656, 13835058055282163712] := by decide +kernel
  have hk : nons ([4609434218613702656, 9218868437227405313, 13835058055282163712] : List Nat).zipIdx = 1 := by decide +kernel
  rw [hn] at hs he
  rw [hk]
  have hs2 := hs.at_some (show fsum [4609434218613702656, 13835058055282163712] = some 13826050856027422720 by decide +kernel)
  have e1 : eLo [4609434218613702656, 13835058055282163712] = 13835058055282163712 := by decide +kernel
  have e2 : eHi [4609434218613702656, 13835058055282163712] = 4609434218613702656 := by decide +kernel
  unfold endsV at he
  rw [e1, e2] at he
  simp at he
  rw [hs2, ← he.1, ← he.2.1]
  rfl

theorem gauge_b {g : Value} (h : IsG [18442240474082181120, 9218868437227405312].zipIdx g) : ∃ s, g = gval 2 0 s 18442240474082181120 9218868437227405312 ∧ nan s = true ∧ s < 2 * S := by
  obtain ⟨s, a, b, ok, rfl, hs, he⟩ := h
  have hn : nums ([18442240474082181120, 9218868437227405312] : List Nat).zipIdx = [18442240474082181120, 9218868437227405312] := by decide +kernel
  have hk : nons ([18442240474082181120, 9218868437227405312] : List Nat).zipIdx = 0 := by decide +kernel
  rw [hn] at hs he
  rw [hk]
  have hs2 := hs.at_none (show fsum [18442240474082181120, 9218868437227405312] = none by decide +kernel)
  have e1 : eLo [18442240474082181120, 9218868437227405312] = 18442240474082181120 := by decide +kernel
  have e2 : eHi [18442240474082181120, 9218868437227405312] = 9218868437227405312 := by decide +kernel
  unfold endsV at he
  rw [e1, e2] at he
  simp at he
  rw [← he.1, ← he.2.1]
  exact ⟨s, rfl, hs2, hs.1⟩
theorem gauge_c {g : Value} (h : IsG [9223372036854775808].zipIdx g) : g = gval 1 0 0 9223372036854775808 9223372036854775808 := by
  obtain ⟨s, a, b, ok, rfl, hs, he⟩ := h
  have hn : nums ([9223372036854775808] : List Nat).zipIdx = [9223372036854775808] := by decide +kernel
  have hk : nons ([9223372036854775808] : List Nat).zipIdx = 0 := by decide +kernel
  rw [hn] at hs he
  rw [hk]
  have hs2 := hs.at_some (show fsum [9223372036854775808] = some 0 by decide +kernel)
  have e1 : eLo [9223372036854775808] = 9223372036854775808 := by decide +kernel
  have e2 : eHi [9223372036854775808] = 9223372036854775808 := by decide +kernel
  unfold endsV at he
  rw [e1, e2] at he
  simp at he
  rw [hs2, ← he.1, ← he.2.1]
  rfl
theorem gauge_0 {g : Value} (h : IsG [] g) : g = gval 0 0 0 0 0 := by
  obtain ⟨s, a, b, ok, rfl, hs, he⟩ := h
  have hs2 := hs.at_some (show fsum [] = some 0 from rfl)
  have he' : endsV (nums []) = .tuple #[.float .f64 0, .float .f64 0, .bool false] := rfl
  rw [he'] at he
  simp at he
  rw [hs2, ← he.1, ← he.2.1]
  rfl
theorem u64s3 (a b c : Nat) : u64s [a, b, c] = [.int .u64 (a : Int), .int .u64 (b : Int), .int .u64 (c : Int)] := rfl
theorem tofs (l : List Nat) (hl : ∀ x ∈ l, x < 2 * S) (hn : l.length ≤ 1000) (v : Value) (w : World) (h : w.ownsRow w.heap.size 50 5 v l.zipIdx.length (tcs l.zipIdx) ∨ ∃ B, w.ownsRow B 50 5 v l.zipIdx.length (tcs l.zipIdx)) :
    Calls Try.prog 35 #[v] w fun e w' => ∃ g, e = .returned g ∧ IsG l.zipIdx g ∧ Below w.heap.size w w' := by
  have hs : Slc w w.heap.size 5 v l.zipIdx.length (tcs l.zipIdx) := by
    rcases h with h | ⟨B, h⟩
    · exact Slc.of_own h
    · exact Slc.of_own h
  exact of_any l.zipIdx v w hs (by rw [List.length_zipIdx]; exact hn) (zip_lt hl)
theorem told3 (w : World) : Calls Try.prog 33 #[.slice (some ⟨w.heap.size, 0, none⟩) 3 3] (w.alloc (.cells #[.int .u64 4609434218613702656, .int .u64 9218868437227405313, .int .u64 13835058055282163712] 31))
    fun e w' => ∃ v', e = .returned v' ∧ w'.ownsRow (w.heap.size + 1) 50 5 v' ([4609434218613702656, 9218868437227405313, 13835058055282163712] : List Nat).zipIdx.length (tcs ([4609434218613702656, 9218868437227405313, 13835058055282163712] : List Nat).zipIdx) ∧ Below w.heap.size w w' := by
  have h := told_any [4609434218613702656, 9218868437227405313, 13835058055282163712] (.slice (some ⟨w.heap.size, 0, none⟩) 3 3) (w.alloc (.cells #[.int .u64 4609434218613702656, .int .u64 9218868437227405313, .int .u64 13835058055282163712] 31)) ((Slc.made w 31 (by rfl)).more (by simp)) (by decide)
  refine h.mono fun e w' ⟨v', he, ho, hb⟩ => ⟨v', he, ?_, ((Below.refl _ w).alloc (Nat.le_refl _) _).trans (hb.mono (by simp))⟩
  rw [World.size_alloc] at ho
  exact ho
theorem told2 (w : World) : Calls Try.prog 33 #[.slice (some ⟨w.heap.size, 0, none⟩) 2 2] (w.alloc (.cells #[.int .u64 18442240474082181120, .int .u64 9218868437227405312] 31))
    fun e w' => ∃ v', e = .returned v' ∧ w'.ownsRow (w.heap.size + 1) 50 5 v' ([18442240474082181120, 9218868437227405312] : List Nat).zipIdx.length (tcs ([18442240474082181120, 9218868437227405312] : List Nat).zipIdx) ∧ Below w.heap.size w w' := by
  have h := told_any [18442240474082181120, 9218868437227405312] (.slice (some ⟨w.heap.size, 0, none⟩) 2 2) (w.alloc (.cells #[.int .u64 18442240474082181120, .int .u64 9218868437227405312] 31)) ((Slc.made w 31 (by rfl)).more (by simp)) (by decide)
  refine h.mono fun e w' ⟨v', he, ho, hb⟩ => ⟨v', he, ?_, ((Below.refl _ w).alloc (Nat.le_refl _) _).trans (hb.mono (by simp))⟩
  rw [World.size_alloc] at ho
  exact ho
theorem told1 (w : World) : Calls Try.prog 33 #[.slice (some ⟨w.heap.size, 0, none⟩) 1 1] (w.alloc (.cells #[.int .u64 9223372036854775808] 31))
    fun e w' => ∃ v', e = .returned v' ∧ w'.ownsRow (w.heap.size + 1) 50 5 v' ([9223372036854775808] : List Nat).zipIdx.length (tcs ([9223372036854775808] : List Nat).zipIdx) ∧ Below w.heap.size w w' := by
  have h := told_any [9223372036854775808] (.slice (some ⟨w.heap.size, 0, none⟩) 1 1) (w.alloc (.cells #[.int .u64 9223372036854775808] 31)) ((Slc.made w 31 (by rfl)).more (by simp)) (by decide)
  refine h.mono fun e w' ⟨v', he, ho, hb⟩ => ⟨v', he, ?_, ((Below.refl _ w).alloc (Nat.le_refl _) _).trans (hb.mono (by simp))⟩
  rw [World.size_alloc] at ho
  exact ho
theorem of0 (w : World) : Calls Try.prog 35 #[.slice none 0 0] w fun e w' => e = .returned (.agg #[.int .i64 0, .int .i64 0, .float .f64 0, .float .f64 0, .float .f64 0]) ∧ Below w.heap.size w w' := by
  refine (of_any [] _ w (Slc.nil _ _ _) (by decide) (by simp)).mono fun e w' ⟨g, he, hg, hb⟩ => ⟨?_, hb⟩
  rw [he, gauge_0 hg]
  rfl
theorem lk0 (w : World) : Calls Try.prog 34 #[.agg #[.int .i64 0, .int .i64 0, .float .f64 0, .float .f64 0, .float .f64 0], .agg #[.int .i64 0, .int .i64 0, .float .f64 0, .float .f64 0, .float .f64 0]] w fun e w' => e = .returned (.bool true) ∧ Below w.heap.size w w' := by
  refine (like28_any 0 0 0 0 0 0 0 0 0 0 (by decide) (by decide) (by decide) (by decide) (by decide) (by decide) w).mono fun e w' ⟨he, hb⟩ => ⟨?_, hb⟩
  rw [he, show gsameB 0 0 0 0 0 0 0 0 0 0 = true by decide +kernel]
theorem lkA (w : World) : Calls Try.prog 34 #[.agg #[.int .i64 3, .int .i64 1, .float .f64 13826050856027422720, .float .f64 13835058055282163712, .float .f64 4609434218613702656], .agg #[.int .i64 3, .int .i64 1, .float .f64 13826050856027422720, .float .f64 13835058055282163712, .float .f64 4609434218613702656]] w fun e w' => e = .returned (.bool true) ∧ Below w.heap.size w w' := by
  refine (like28_any 3 1 13826050856027422720 13835058055282163712 4609434218613702656 3 1 13826050856027422720 13835058055282163712 4609434218613702656 (by decide) (by decide) (by decide) (by decide) (by decide) (by decide) w).mono fun e w' ⟨he, hb⟩ => ⟨?_, hb⟩
  rw [he, show gsameB 3 1 13826050856027422720 13835058055282163712 4609434218613702656 3 1 13826050856027422720 13835058055282163712 4609434218613702656 = true by decide +kernel]
theorem lkC (w : World) : Calls Try.prog 34 #[.agg #[.int .i64 1, .int .i64 0, .float .f64 0, .float .f64 9223372036854775808, .float .f64 9223372036854775808], .agg #[.int .i64 1, .int .i64 0, .float .f64 0, .float .f64 9223372036854775808, .float .f64 9223372036854775808]] w fun e w' => e = .returned (.bool true) ∧ Below w.heap.size w w' := by
  refine (like28_any 1 0 0 9223372036854775808 9223372036854775808 1 0 0 9223372036854775808 9223372036854775808 (by decide) (by decide) (by decide) (by decide) (by decide) (by decide) w).mono fun e w' ⟨he, hb⟩ => ⟨?_, hb⟩
  rw [he, show gsameB 1 0 0 9223372036854775808 9223372036854775808 1 0 0 9223372036854775808 9223372036854775808 = true by decide +kernel]
set_option maxHeartbeats 4000000 in
theorem gauged_any (w : World) : Calls Try.prog 32 #[] w fun e w' => e = .returned (.bool true) ∧ Below w.heap.size w w' := by
  have hf := f64bits
  have hg : ∀ w, (callFunc 23 #[.int .u64 9223372036854775808]).run Try.prog w = .ok (.value (.float .f64 9223372036854775808)) w := frombits 9223372036854775808
  go_enter Try.func32, Try.ntmps32
  go_wp2_with fail
  refine (inf_neg _).mono ?_; rintro e w' ⟨rfl, rfl⟩
  go_wp2_with fail
  refine (inf_pos _).mono ?_; rintro e w' ⟨rfl, rfl⟩
  go_wp2_with fail
  refine (told3 w).mono ?_; rintro e w1 ⟨v1, rfl, hown1, hb1⟩
  go_wp2_with fail
  refine (of_any _ v1 w1 (Slc.of_own hown1) (by decide) (zip_lt (by decide +kernel))).mono ?_; rintro e w2 ⟨g, rfl, hg2, hb2⟩
  obtain rfl := gauge_a hg2
  have hb02 := hb1.trans (hb2.mono hb1.size)
  clear hb1 hb2 hown1 hg2
  unfold gval
  go_wp2_with fail
  obtain ⟨wx, hx⟩ : ∃ wx, w2.alloc (.cells #[.int .i64 3, .int .i64 1, .float .f64 13826050856027422720, .float .f64 13835058055282163712, .float .f64 4609434218613702656] 43) = wx := ⟨_, rfl⟩
  have hA : Blk wx w2.heap.size 43 #[.int .i64 3, .int .i64 1, .float .f64 13826050856027422720, .float .f64 13835058055282163712, .float .f64 4609434218613702656] := by rw [← hx]; exact Blk.made _ _ _
  have hsx : w2.heap.size + 1 = wx.heap.size := by rw [← hx]; simp
  have hb0x : Below w.heap.size w wx := by rw [← hx]; exact hb02.alloc hb02.size _
  rw [hx, hsx]
  generalize w2.heap.size = A at hA hsx ⊢
  clear hx hb02 hsx w2
  refine (told2 wx).mono ?_; rintro e w1 ⟨v1, rfl, hown1, hb1⟩
  go_wp2_with fail
  refine (of_any _ v1 w1 (Slc.of_own hown1) (by decide) (zip_lt (by decide +kernel))).mono ?_; rintro e w2 ⟨g, rfl, hg2, hb2⟩
  obtain ⟨s, rfl, hns, hs2⟩ := gauge_b hg2
  have hb02 := hb1.trans (hb2.mono hb1.size)
  have hA2 := hA.below hb02 hA.lt
  have hb0y := hb0x.trans (hb02.mono hb0x.size)
  clear hb1 hb2 hown1 hg2 hb02 hA hb0x
  unfold gval
  go_wp2_with fail
  obtain ⟨wx, hx⟩ : ∃ wx, w2.alloc (.cells #[.int .i64 2, .int .i64 0, .float .f64 s, .float .f64 18442240474082181120, .float .f64 9218868437227405312] 43) = wx := ⟨_, rfl⟩
  have hA : Blk wx A 43 #[.int .i64 3, .int .i64 1, .float .f64 13826050856027422720, .float .f64 13835058055282163712, .float .f64 4609434218613702656] := by rw [← hx]; exact hA2.alloc _
  have hB : Blk wx w2.heap.size 43 #[.int .i64 2, .int .i64 0, .float .f64 s, .float .f64 18442240474082181120, .float .f64 9218868437227405312] := by rw [← hx]; exact Blk.made _ _ _
  have hsx : w2.heap.size + 1 = wx.heap.size := by rw [← hx]; simp
  have hb0x : Below w.heap.size w wx := by rw [← hx]; exact hb0y.alloc hb0y.size _
  rw [hx, hsx]
  generalize w2.heap.size = B at hB hsx ⊢
  clear hx hb0y hsx hA2 w2
  refine (told1 wx).mono ?_; rintro e w1 ⟨v1, rfl, hown1, hb1⟩
  go_wp2_with fail
  refine (of_any _ v1 w1 (Slc.of_own hown1) (by decide) (zip_lt (by decide +kernel))).mono ?_; rintro e w2 ⟨g, rfl, hg2, hb2⟩
  obtain rfl := gauge_c hg2
  have hb02 := hb1.trans (hb2.mono hb1.size)
  have hA2 := hA.below hb02 hA.lt
  have hB2 := hB.below hb02 hB.lt
  have hb0y := hb0x.trans (hb02.mono hb0x.size)
  clear hb1 hb2 hown1 hg2 hb02 hA hB hb0x
  unfold gval
  go_wp2_with fail
  obtain ⟨wx, hx⟩ : ∃ wx, w2.alloc (.cells #[.int .i64 1, .int .i64 0, .float .f64 0, .float .f64 9223372036854775808, .float .f64 9223372036854775808] 43) = wx := ⟨_, rfl⟩
  have hA : Blk wx A 43 #[.int .i64 3, .int .i64 1, .float .f64 13826050856027422720, .float .f64 13835058055282163712, .float .f64 4609434218613702656] := by rw [← hx]; exact hA2.alloc _
  have hB : Blk wx B 43 #[.int .i64 2, .int .i64 0, .float .f64 s, .float .f64 18442240474082181120, .float .f64 9218868437227405312] := by rw [← hx]; exact hB2.alloc _
  have hC : Blk wx w2.heap.size 43 #[.int .i64 1, .int .i64 0, .float .f64 0, .float .f64 9223372036854775808, .float .f64 9223372036854775808] := by rw [← hx]; exact Blk.made _ _ _
  have hb0x : Below w.heap.size w wx := by rw [← hx]; exact hb0y.alloc hb0y.size _
  rw [hx]
  generalize w2.heap.size = C at hC ⊢
  clear hx hb0y hA2 hB2 w2
  have a0 : wx.cell? ⟨A, 0, none⟩ = some (.int .i64 3) := hA.cell 0
  have a1 : wx.cell? ⟨A, 1, none⟩ = some (.int .i64 1) := hA.cell 1
  have a2 : wx.cell? ⟨A, 2, none⟩ = some (.float .f64 13826050856027422720) := hA.cell 2
  have a3 : wx.cell? ⟨A, 3, none⟩ = some (.float .f64 13835058055282163712) := hA.cell 3
  have a4 : wx.cell? ⟨A, 4, none⟩ = some (.float .f64 4609434218613702656) := hA.cell 4
  have b0 : wx.cell? ⟨B, 0, none⟩ = some (.int .i64 2) := hB.cell 0
  have b2 : wx.cell? ⟨B, 2, none⟩ = some (.float .f64 s) := hB.cell 2
  have b3 : wx.cell? ⟨B, 3, none⟩ = some (.float .f64 18442240474082181120) := hB.cell 3
  have b4 : wx.cell? ⟨B, 4, none⟩ = some (.float .f64 9218868437227405312) := hB.cell 4
  have c0 : wx.cell? ⟨C, 0, none⟩ = some (.int .i64 1) := hC.cell 0
  have c1 : wx.cell? ⟨C, 1, none⟩ = some (.int .i64 0) := hC.cell 1
  have c2 : wx.cell? ⟨C, 2, none⟩ = some (.float .f64 0) := hC.cell 2
  have c3 : wx.cell? ⟨C, 3, none⟩ = some (.float .f64 9223372036854775808) := hC.cell 3
  have c4 : wx.cell? ⟨C, 4, none⟩ = some (.float .f64 9223372036854775808) := hC.cell 4
  have lA := hA.lt
  have lB := hB.lt
  have lC := hC.lt
  have q1 : (FloatKind.f64.format.order s s != some .eq) = true := (neq_self s).trans hns
  have q2 : (FloatKind.f64.format.order 18442240474082181120 18442240474082181119 == some .lt) = true := by decide +kernel
  have q3 : (FloatKind.f64.format.order 9218868437227405312 9218868437227405311 == some .gt) = true := by decide +kernel
  have SOF : Hid (∀ W : World, Below wx.heap.size wx W → Below wx.heap.size wx W ∧ (∀ b o, b < wx.heap.size → W.cell? ⟨b, o, none⟩ = wx.cell? ⟨b, o, none⟩)) :=
    fun W h => ⟨h, fun b o hb => h.cell (p := ⟨b, o, none⟩) hb⟩
  clear hA hB hC hf hns
  go_region_held3 (fun W => Below wx.heap.size wx W ∧ (∀ b o, b < wx.heap.size → W.cell? ⟨b, o, none⟩ = wx.cell? ⟨b, o, none⟩))
    (first
      | exact SOF.out _ (by go_grown)
      | exact SOF.out _ (by assumption))
    (first
      | (go_at_call 35; have hcur := And.left ‹Below wx.heap.size wx _ ∧ (∀ b o, b < wx.heap.size → World.cell? _ ⟨b, o, none⟩ = wx.cell? ⟨b, o, none⟩)›; (with_reducible refine (of0 _).mono ?_); rintro e w' ⟨rfl, hb'⟩; have hnow := Below.trans hcur (Below.mono hb' hcur.size))
      | (go_at_call 34; have hcur := And.left ‹Below wx.heap.size wx _ ∧ (∀ b o, b < wx.heap.size → World.cell? _ ⟨b, o, none⟩ = wx.cell? ⟨b, o, none⟩)›; (with_reducible refine (lk0 _).mono ?_); rintro e w' ⟨rfl, hb'⟩; have hnow := Below.trans hcur (Below.mono hb' hcur.size))
      | (go_at_call 34; have hcur := And.left ‹Below wx.heap.size wx _ ∧ (∀ b o, b < wx.heap.size → World.cell? _ ⟨b, o, none⟩ = wx.cell? ⟨b, o, none⟩)›; (with_reducible refine (lkA _).mono ?_); rintro e w' ⟨rfl, hb'⟩; have hnow := Below.trans hcur (Below.mono hb' hcur.size))
      | (go_at_call 34; have hcur := And.left ‹Below wx.heap.size wx _ ∧ (∀ b o, b < wx.heap.size → World.cell? _ ⟨b, o, none⟩ = wx.cell? ⟨b, o, none⟩)›; (with_reducible refine (lkC _).mono ?_); rintro e w' ⟨rfl, hb'⟩; have hnow := Below.trans hcur (Below.mono hb' hcur.size)))
  go_wp2_with fail
  go_ret
  exact ⟨rfl, hb0x.trans (Below.mono (And.left (by assumption : Below wx.heap.size wx _ ∧ (∀ b o, b < wx.heap.size → World.cell? _ ⟨b, o, none⟩ = wx.cell? ⟨b, o, none⟩))) hb0x.size)⟩
end Wt
end Go.Proofs.Ytimalebcbfhgaaa
