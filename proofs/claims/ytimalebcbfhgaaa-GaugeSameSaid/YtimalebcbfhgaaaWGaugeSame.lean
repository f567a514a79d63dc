/- The walk of GaugeSame. -/
import Derived.Test.YtimalebcbfhgaaaW28g
import Derived.Test.YtimalebcbfhgaaaOpenRaw
import Derived.Deep.RegionHeld3
import Derived.Deep.RegionWith
import Derived.Deep.DeepCutAuto
namespace Go.Proofs.Ytimalebcbfhgaaa
open Go.RowKit Fl Wt
namespace gaugeSame
theorem blk_new (w : World) (t : TypeId) (cs : Array Value) (g : Nat) (h : w.heap.size = g) : Blk (w.alloc (.cells cs t)) g t cs := by subst h; exact Blk.made _ _ _
attribute [local go_sem] run_store_number
set_option maxHeartbeats 4000000 in
theorem walk0 (x0 x1 y0 y1 : Int) (s a b s' a' b' : Nat) (h1 : s < 2 * S) (h2 : a < 2 * S) (h3 : b < 2 * S) (h4 : s' < 2 * S) (h5 : a' < 2 * S) (h6 : b' < 2 * S) (w : World) :
    Calls Try.prog 13 #[.agg #[.int .i64 x0, .int .i64 x1, .int .u64 (s : Int), .int .u64 (a : Int), .int .u64 (b : Int)], .agg #[.int .i64 y0, .int .i64 y1, .int .u64 (s' : Int), .int .u64 (a' : Int), .int .u64 (b' : Int)]] w fun e w' => e = .returned (.bool true) ∧ Below w.heap.size w w' := by
  obtain ⟨W, hW⟩ : ∃ W, (w.alloc (.cells #[.int .i64 x0, .int .i64 x1, .int .u64 (s : Int), .int .u64 (a : Int), .int .u64 (b : Int)] 54)).alloc (.cells #[.int .i64 y0, .int .i64 y1, .int .u64 (s' : Int), .int .u64 (a' : Int), .int .u64 (b' : Int)] 54) = W := ⟨_, rfl⟩
  have A : Blk W w.heap.size 54 #[.int .i64 x0, .int .i64 x1, .int .u64 (s : Int), .int .u64 (a : Int), .int .u64 (b : Int)] := by rw [← hW]; exact (Blk.made _ _ _).alloc _
  have B : Blk W (w.heap.size + 1) 54 #[.int .i64 y0, .int .i64 y1, .int .u64 (s' : Int), .int .u64 (a' : Int), .int .u64 (b' : Int)] := by
    rw [← hW]
    have h := Blk.made (w.alloc (.cells #[.int .i64 x0, .int .i64 x1, .int .u64 (s : Int), .int .u64 (a : Int), .int .u64 (b : Int)] 54)) 54 #[.int .i64 y0, .int .i64 y1, .int .u64 (s' : Int), .int .u64 (a' : Int), .int .u64 (b' : Int)]
    rw [World.size_alloc] at h
    exact h
  have hbel : Below w.heap.size w W := by rw [← hW]; go_grown
  have HW := Lib.hid hW
  clear hW
  go_enter Try.func13, Try.ntmps13
  go_wp2_with fail
  rw [HW.out]
  clear HW
  have a0 : W.cell? ⟨w.heap.size, 0, none⟩ = some (.int .i64 x0) := A.cell 0
  have a1 : W.cell? ⟨w.heap.size, 1, none⟩ = some (.int .i64 x1) := A.cell 1
  have a2 : W.cell? ⟨w.heap.size, 2, none⟩ = some (.int .u64 (s : Int)) := A.cell 2
  have a3 : W.cell? ⟨w.heap.size, 3, none⟩ = some (.int .u64 (a : Int)) := A.cell 3
  have a4 : W.cell? ⟨w.heap.size, 4, none⟩ = some (.int .u64 (b : Int)) := A.cell 4
  have b0 : W.cell? ⟨w.heap.size + 1, 0, none⟩ = some (.int .i64 y0) := B.cell 0
  have b1 : W.cell? ⟨w.heap.size + 1, 1, none⟩ = some (.int .i64 y1) := B.cell 1
  have b2 : W.cell? ⟨w.heap.size + 1, 2, none⟩ = some (.int .u64 (s' : Int)) := B.cell 2
  have b3 : W.cell? ⟨w.heap.size + 1, 3, none⟩ = some (.int .u64 (a' : Int)) := B.cell 3
  have b4 : W.cell? ⟨w.heap.size + 1, 4, none⟩ = some (.int .u64 (b' : Int)) := B.cell 4
  have lA := A.lt
  have lB := B.lt
  clear A B
  have SOF : Hid (∀ V : World, Below W.heap.size W V → (∀ b o, b < W.heap.size → V.cell? ⟨b, o, none⟩ = W.cell? ⟨b, o, none⟩)) :=
    fun V h b o hb => h.cell (p := ⟨b, o, none⟩) hb
  go_cut [5, 6] (fun p q wx => ∃ g1 g2 : Nat, p = .pointer (some ⟨g1, 0, none⟩) ∧ q = .pointer (some ⟨g2, 0, none⟩) ∧ Blk wx g1 43 #[.int .i64 x0, .int .i64 x1, .float .f64 s, .float .f64 a, .float .f64 b] ∧ Blk wx g2 43 #[.int .i64 y0, .int .i64 y1, .float .f64 s', .float .f64 a', .float .f64 b'] ∧ Below w.heap.size w wx)
  case first =>
    go_region_held3 (fun V => (∀ b o, b < W.heap.size → V.cell? ⟨b, o, none⟩ = W.cell? ⟨b, o, none⟩))
      (first
        | exact SOF.out _ (by go_grown)
        | assumption)
      (first
        | (go_at_call 38; (with_reducible refine (g_exact _ _ _ _ _ _).mono ?_); rintro e w' ⟨rfl, rfl⟩))
    all_goals
      go_wp2_with fail
      go_meet
      refine ⟨_, _, rfl, rfl, ?_, ?_, ?_⟩
      · repeat (first | (refine blk_new _ _ _ _ ?_; simp; done) | refine Blk.drew ?_ | refine Blk.drewN ?_ _ | refine Blk.alloc ?_ _)
      · repeat (first | (refine blk_new _ _ _ _ ?_; simp; done) | refine Blk.drew ?_ | refine Blk.drewN ?_ _ | refine Blk.alloc ?_ _)
      · go_grown
  case rest =>
    obtain ⟨g1, g2, rfl, rfl, B1, B2, hbx⟩ := hcut
    clear a0 a1 a2 a3 a4 b0 b1 b2 b3 b4 lA lB SOF hbel
    have c0 : wc.cell? ⟨g1, 0, none⟩ = some (.int .i64 x0) := B1.cell 0
    have c1 : wc.cell? ⟨g1, 1, none⟩ = some (.int .i64 x1) := B1.cell 1
    have c2 : wc.cell? ⟨g1, 2, none⟩ = some (.float .f64 s) := B1.cell 2
    have c3 : wc.cell? ⟨g1, 3, none⟩ = some (.float .f64 a) := B1.cell 3
    have c4 : wc.cell? ⟨g1, 4, none⟩ = some (.float .f64 b) := B1.cell 4
    have d0 : wc.cell? ⟨g2, 0, none⟩ = some (.int .i64 y0) := B2.cell 0
    have d1 : wc.cell? ⟨g2, 1, none⟩ = some (.int .i64 y1) := B2.cell 1
    have d2 : wc.cell? ⟨g2, 2, none⟩ = some (.float .f64 s') := B2.cell 2
    have d3 : wc.cell? ⟨g2, 3, none⟩ = some (.float .f64 a') := B2.cell 3
    have d4 : wc.cell? ⟨g2, 4, none⟩ = some (.float .f64 b') := B2.cell 4
    have l1 := B1.lt
    have l2 := B2.lt
    have P1 := Lib.hid B1
    have P2 := Lib.hid B2
    clear B1 B2
    have hg : ∀ w, (callFunc 23 #[.int .u64 9218868437227405389]).run Try.prog w = .ok (.value (.float .f64 9218868437227405389)) w := frombits 9218868437227405389
    go_wp2_with fail
    refine (nan_any _).mono ?_; rintro e w' ⟨rfl, rfl⟩
    go_wp2_with fail
    obtain ⟨wd, hwd⟩ : ∃ wd, (wc.alloc (.cells #[.int .i64 x0, .int .i64 x1, .float .f64 9221120237041090561, .float .f64 a, .float .f64 b] 43)).alloc (.cells #[.int .i64 x0, .int .i64 x1, .float .f64 9218868437227405389, .float .f64 a, .float .f64 b] 43) = wd := ⟨_, rfl⟩
    have B3 : Blk wd wc.heap.size 43 #[.int .i64 x0, .int .i64 x1, .float .f64 9221120237041090561, .float .f64 a, .float .f64 b] := by rw [← hwd]; exact (Blk.made _ _ _).alloc _
    have B4 : Blk wd (wc.heap.size + 1) 43 #[.int .i64 x0, .int .i64 x1, .float .f64 9218868437227405389, .float .f64 a, .float .f64 b] := by rw [← hwd]; exact blk_new _ _ _ _ (by simp)
    have B5 : Blk wd g1 43 #[.int .i64 x0, .int .i64 x1, .float .f64 s, .float .f64 a, .float .f64 b] := by rw [← hwd]; exact (P1.out.alloc _).alloc _
    have B6 : Blk wd g2 43 #[.int .i64 y0, .int .i64 y1, .float .f64 s', .float .f64 a', .float .f64 b'] := by rw [← hwd]; exact (P2.out.alloc _).alloc _
    have hbd : Below w.heap.size w wd := by rw [← hwd]; exact (hbx.alloc hbx.size _).alloc (by have := hbx.size; simp; omega) _
    rw [hwd]
    clear c0 c1 c2 c3 c4 d0 d1 d2 d3 d4 hwd hbx l1 l2 P1 P2
    have hq : wc.heap.size + 1 < wd.heap.size := B4.lt
    have hq0 : wc.heap.size < wd.heap.size := B3.lt
    have c0 : wd.cell? ⟨g1, 0, none⟩ = some (.int .i64 x0) := B5.cell 0
    have c1 : wd.cell? ⟨g1, 1, none⟩ = some (.int .i64 x1) := B5.cell 1
    have c2 : wd.cell? ⟨g1, 2, none⟩ = some (.float .f64 s) := B5.cell 2
    have c3 : wd.cell? ⟨g1, 3, none⟩ = some (.float .f64 a) := B5.cell 3
    have c4 : wd.cell? ⟨g1, 4, none⟩ = some (.float .f64 b) := B5.cell 4
    have d0 : wd.cell? ⟨g2, 0, none⟩ = some (.int .i64 y0) := B6.cell 0
    have d1 : wd.cell? ⟨g2, 1, none⟩ = some (.int .i64 y1) := B6.cell 1
    have d2 : wd.cell? ⟨g2, 2, none⟩ = some (.float .f64 s') := B6.cell 2
    have d3 : wd.cell? ⟨g2, 3, none⟩ = some (.float .f64 a') := B6.cell 3
    have d4 : wd.cell? ⟨g2, 4, none⟩ = some (.float .f64 b') := B6.cell 4
    have e0 : wd.cell? ⟨wc.heap.size, 0, none⟩ = some (.int .i64 x0) := B3.cell 0
    have e1 : wd.cell? ⟨wc.heap.size, 1, none⟩ = some (.int .i64 x1) := B3.cell 1
    have e2 : wd.cell? ⟨wc.heap.size, 2, none⟩ = some (.float .f64 9221120237041090561) := B3.cell 2
    have e3 : wd.cell? ⟨wc.heap.size, 3, none⟩ = some (.float .f64 a) := B3.cell 3
    have e4 : wd.cell? ⟨wc.heap.size, 4, none⟩ = some (.float .f64 b) := B3.cell 4
    have f0 : wd.cell? ⟨wc.heap.size + 1, 0, none⟩ = some (.int .i64 x0) := B4.cell 0
    have f1 : wd.cell? ⟨wc.heap.size + 1, 1, none⟩ = some (.int .i64 x1) := B4.cell 1
    have f2 : wd.cell? ⟨wc.heap.size + 1, 2, none⟩ = some (.float .f64 9218868437227405389) := B4.cell 2
    have f3 : wd.cell? ⟨wc.heap.size + 1, 3, none⟩ = some (.float .f64 a) := B4.cell 3
    have f4 : wd.cell? ⟨wc.heap.size + 1, 4, none⟩ = some (.float .f64 b) := B4.cell 4
    have l1 := B5.lt
    have l2 := B6.lt
    clear B3 B4 B5 B6 hg
    have q2 : gsameB x0 x1 s a b x0 x1 s a b = true := by unfold gsameB sumB sameB; simp
    have q3 : gsameB x0 x1 9221120237041090561 a b x0 x1 9218868437227405389 a b = true := by
      have hs : sumB 9221120237041090561 9218868437227405389 = true := by decide +kernel
      unfold gsameB; rw [hs]; unfold sameB; simp
    have z1 : 9221120237041090561 < 2 * S := by decide
    have z2 : 9218868437227405389 < 2 * S := by decide
    have SOF : Hid (∀ V : World, Below wd.heap.size wd V → Below wd.heap.size wd V ∧ (∀ b o, b < wd.heap.size → V.cell? ⟨b, o, none⟩ = wd.cell? ⟨b, o, none⟩)) :=
      fun V h => ⟨h, fun b o hb => h.cell (p := ⟨b, o, none⟩) hb⟩
    have C1 := Lib.hid (gsame_any x0 x1 s a b y0 y1 s' a' b' h1 h4)
    have C2 := Lib.hid (refgsame_any x0 x1 s a b y0 y1 s' a' b' h1 h4 h2 h5 h3 h6)
    have C3 := Lib.hid (gsame_any x0 x1 s a b x0 x1 s a b h1 h1)
    have C4 := Lib.hid (gsame_any x0 x1 9221120237041090561 a b x0 x1 9218868437227405389 a b z1 z2)
    rw [q2] at C3
    rw [q3] at C4
    generalize gsameB x0 x1 s a b y0 y1 s' a' b' = q at C1 C2
    have qq : (q == q) = true := by simp
    clear q2 q3 z1 z2 h1 h2 h3 h4 h5 h6
    generalize wc.heap.size = g3 at *
    go_region_held3 (fun V => Below wd.heap.size wd V ∧ (∀ b o, b < wd.heap.size → V.cell? ⟨b, o, none⟩ = wd.cell? ⟨b, o, none⟩))
      (first
        | exact SOF.out _ (by go_grown)
        | exact SOF.out _ (by assumption))
      (first
        | (go_at_call 37; have hcur := And.left ‹Below wd.heap.size wd _ ∧ (∀ b o, b < wd.heap.size → World.cell? _ ⟨b, o, none⟩ = wd.cell? ⟨b, o, none⟩)›; (with_reducible refine (C1.out _).mono ?_); rintro e w' ⟨rfl, hb'⟩; have hnow := Below.trans hcur (Below.mono hb' hcur.size))
        | (go_at_call 40; have hcur := And.left ‹Below wd.heap.size wd _ ∧ (∀ b o, b < wd.heap.size → World.cell? _ ⟨b, o, none⟩ = wd.cell? ⟨b, o, none⟩)›; (with_reducible refine (C2.out _).mono ?_); rintro e w' ⟨rfl, hb'⟩; have hnow := Below.trans hcur (Below.mono hb' hcur.size))
        | (go_at_call 37; have hcur := And.left ‹Below wd.heap.size wd _ ∧ (∀ b o, b < wd.heap.size → World.cell? _ ⟨b, o, none⟩ = wd.cell? ⟨b, o, none⟩)›; (with_reducible refine (C3.out _).mono ?_); rintro e w' ⟨rfl, hb'⟩; have hnow := Below.trans hcur (Below.mono hb' hcur.size))
        | (go_at_call 37; have hcur := And.left ‹Below wd.heap.size wd _ ∧ (∀ b o, b < wd.heap.size → World.cell? _ ⟨b, o, none⟩ = wd.cell? ⟨b, o, none⟩)›; (with_reducible refine (C4.out _).mono ?_); rintro e w' ⟨rfl, hb'⟩; have hnow := Below.trans hcur (Below.mono hb' hcur.size))
        | (go_at_call 32; have hcur := And.left ‹Below wd.heap.size wd _ ∧ (∀ b o, b < wd.heap.size → World.cell? _ ⟨b, o, none⟩ = wd.cell? ⟨b, o, none⟩)›; (with_reducible refine (gauged_any _).mono ?_); rintro e w' ⟨rfl, hb'⟩; have hnow := Below.trans hcur (Below.mono hb' hcur.size)))
    go_wp2_with fail
    go_ret
    exact ⟨rfl, hbd.trans (Below.mono (And.left (by assumption : Below wd.heap.size wd _ ∧ (∀ b o, b < wd.heap.size → World.cell? _ ⟨b, o, none⟩ = wd.cell? ⟨b, o, none⟩))) hbd.size)⟩
theorem walk (x0 y0 : Int) (s0 a0 b0 : Nat) (x1 y1 : Int) (s1 a1 b1 : Nat) (h1 : s0 < 2 * S) (h2 : a0 < 2 * S) (h3 : b0 < 2 * S) (h4 : s1 < 2 * S) (h5 : a1 < 2 * S) (h6 : b1 < 2 * S) (w : World) :
    Calls Try.prog 13 #[.agg #[.int .i64 x0, .int .i64 y0, .int .u64 (s0 : Int), .int .u64 (a0 : Int), .int .u64 (b0 : Int)], .agg #[.int .i64 x1, .int .i64 y1, .int .u64 (s1 : Int), .int .u64 (a1 : Int), .int .u64 (b1 : Int)]] w fun e w' => e = .returned (.bool true) ∧ Below w.heap.size w w' :=
  walk0 x0 y0 x1 y1 s0 a0 b0 s1 a1 b1 h1 h2 h3 h4 h5 h6 w
end gaugeSame
end Go.Proofs.Ytimalebcbfhgaaa
