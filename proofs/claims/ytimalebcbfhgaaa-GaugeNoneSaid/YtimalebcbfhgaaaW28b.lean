/- The walks of gauge: Of. -/
import Derived.Test.YtimalebcbfhgaaaW28a
import Derived.Test.YtimalebcbfhgaaaOpenSlc
namespace Go.Proofs.Ytimalebcbfhgaaa
namespace Wt
open Go.RowKit Fl
attribute [local go_sem] run_store_number
/-- the weights of events -/
def wts (l : List (Nat × Nat)) : List Nat := l.map Prod.fst
/-- those that are numbers -/
def nums (l : List (Nat × Nat)) : List Nat := (wts l).filter fun x => !nan x
def nons (l : List (Nat × Nat)) : Nat := (wts l).countP nan
def gval (c n : Int) (s a b : Nat) : Value := .agg #[.int .i64 c, .int .i64 n, .float .f64 s, .float .f64 a, .float .f64 b]
/-- what is told of events -/
def IsG (l : List (Nat × Nat)) (v : Value) : Prop := ∃ s a b ok, v = gval l.length (nons l) s a b ∧ IsSum (nums l) s ∧ endsV (nums l) = .tuple #[.float .f64 a, .float .f64 b, .bool ok]
theorem nums_snoc {l : List (Nat × Nat)} {k : Nat} (h : k < l.length) : nums (l.take (k + 1)) = nums (l.take k) ++ (if nan l[k].1 = true then [] else [l[k].1]) := by
  unfold nums wts
  rw [List.take_succ_eq_append_getElem h, List.map_append, List.filter_append]
  congr 1
  cases hn : nan l[k].1 <;> simp [hn]
theorem nons_snoc {l : List (Nat × Nat)} {k : Nat} (h : k < l.length) : nons (l.take (k + 1)) = nons (l.take k) + (if nan l[k].1 = true then 1 else 0) := by
  unfold nons wts
  rw [List.take_succ_eq_append_getElem h, List.map_append, List.countP_append]
  congr 1
  cases hn : nan l[k].1 <;> simp [hn]
theorem nums_le (l : List (Nat × Nat)) : (nums l).length ≤ l.length := by
  unfold nums wts
  refine Nat.le_trans (List.length_filter_le _ _) ?_
  rw [List.length_map]
  exact Nat.le_refl _
theorem nons_le (l : List (Nat × Nat)) : nons l ≤ l.length := by
  unfold nons wts
  refine Nat.le_trans List.countP_le_length ?_
  rw [List.length_map]
  exact Nat.le_refl _
theorem nums_lt {l : List (Nat × Nat)} (h : ∀ p ∈ l, p.1 < 2 * S) : ∀ f ∈ nums l, f < 2 * S := by
  intro f hf
  obtain ⟨hf, _⟩ := List.mem_filter.1 hf
  obtain ⟨p, hp, rfl⟩ := List.mem_map.1 hf
  exact h p hp
theorem tcell_at {w : World} {b off : Nat} {l : List (Nat × Nat)} (hc : ∀ j u, (tcs l)[j]? = some u → w.cell? ⟨b, off + j, none⟩ = some u) (k : Nat) (hk : k < l.length) :
    w.cell? ⟨b, off + k * 5, none⟩ = some (.string ⟨#[115]⟩) ∧ w.cell? ⟨b, off + k * 5 + 1, none⟩ = some (.int .i64 (l[k].2 : Int)) ∧ w.cell? ⟨b, off + k * 5 + 2, none⟩ = some (.string ⟨#[116]⟩) ∧
      w.cell? ⟨b, off + k * 5 + 3, none⟩ = some (.string ⟨#[]⟩) ∧ w.cell? ⟨b, off + k * 5 + 4, none⟩ = some (.float .f64 l[k].1) := by
  have g : ∀ j, j < 5 → (tcs l)[k * 5 + j]? = (tcell l[k])[j]? := by
    intro j hj
    have := flat_get tcell 5 (fun _ => rfl) l k j hj
    rw [List.getElem?_eq_getElem hk] at this
    exact this
  exact ⟨hc _ _ (g 0 (by omega)), hc _ _ (g 1 (by omega)), hc _ _ (g 2 (by omega)), hc _ _ (g 3 (by omega)), hc _ _ (g 4 (by omega))⟩
theorem endsV_is (l : List Nat) : ∃ p q b, endsV l = .tuple #[.float .f64 p, .float .f64 q, .bool b] := by
  unfold endsV
  split
  · exact ⟨_, _, _, rfl⟩
  · exact ⟨_, _, _, rfl⟩
theorem cls_nan (x : Nat) : ((cls x : Int) == 0) = nan x := by
  unfold cls
  cases h : nan x with
  | true => rfl
  | false =>
    simp only [Bool.false_eq_true, if_false]
    split
    · rfl
    · split
      · rfl
      · split
        · rfl
        · split <;> rfl

set_option maxHeartbeats 1000000 in
theorem of_any (l : List (Nat × Nat)) (v : Value) (w : World) (h : Slc w w.heap.size 5 v l.length (tcs l)) (hn : l.length ≤ 1000) (hl : ∀ p ∈ l, p.1 < 2 * S) :
    Calls Try.prog 35 #[v] w fun e w' => ∃ g, e = .returned g ∧ IsG l g ∧ Below w.heap.size w w' := by
  obtain ⟨i26, hi, hz0, hz1, hz2⟩ := info_parts info26
  obtain ⟨hlen, A, c, rfl, hcells⟩ := h
  have HC := Lib.hid hcells
  have HL := Lib.hid hl
  clear hcells hl hlen
  go_enter Try.func35, Try.ntmps35
  go_wp2_with fail
  go_step3
  go_wp2_with fail
  go_step3
  go_wp2_with fail
  go_loopw [4, 12] (fun o i wr => ∃ k : Nat, k ≤ l.length ∧ i = .int .i64 k ∧ wr.ownsRow (w.heap.size + 2) 26 1 o (nums (l.take k)).length (fls (nums (l.take k))) ∧
      Blk wr w.heap.size 43 #[.int .i64 0, .int .i64 0, .float .f64 0, .float .f64 0, .float .f64 0] ∧ Blk wr (w.heap.size + 1) 43 #[.int .i64 l.length, .int .i64 (nons (l.take k)), .float .f64 0, .float .f64 0, .float .f64 0] ∧ Below w.heap.size w wr) (fun _ i _ => l.length - (intOf i).toNat)
  case atStart => exact ⟨0, Nat.zero_le _, rfl, World.ownsRow_nil _ _ _ _, (Blk.made _ _ _).alloc _, by have := Blk.made (w.alloc (.cells #[.int .i64 0, .int .i64 0, .float .f64 0, .float .f64 0, .float .f64 0] 43)) 43 #[.int .i64 l.length, .int .i64 0, .float .f64 0, .float .f64 0, .float .f64 0]; rw [World.size_alloc] at this; exact this, by go_grown⟩
  case round =>
    obtain ⟨k, hk, rfl, hown, hb0, hb1, hbel⟩ := hrel
    have hbs := hbel.size
    have hs0 := hb0.lt
    have hs1 := hb1.lt
    by_cases hlt : k < l.length
    · obtain ⟨b, off, rfl, hb, hcell⟩ := HC.out (by omega)
      have hcw : ∀ j u, (tcs l)[j]? = some u → wr.cell? ⟨b, off + j, none⟩ = some u := fun j u hj => (hbel.cell (p := ⟨b, off + j, none⟩) hb).trans (hcell j u hj)
      obtain ⟨t0, t1, t2, t3, t4⟩ := tcell_at hcw k hlt
      have hx := HL.out _ (List.getElem_mem hlt)
      have e1 := nums_snoc hlt
      have e2 := nons_snoc hlt
      have hbw : b < wr.heap.size := by omega
      have g1 : wr.cell? ⟨w.heap.size + 1, 1, none⟩ = some (.int .i64 (nons (l.take k))) := hb1.cell 1
      have gf : wr.frozen? ⟨w.heap.size + 1, 1, none⟩ = false := hb1.free 1
      have hcn := nons_le (l.take k)
      have hnn := nums_le (l.take k)
      have htk : (l.take k).length ≤ 1000 := by rw [List.length_take]; omega
      have hc2 := cls_nan l[k].1
      generalize l[k].1 = x at t4 hx e1 e2 hc2
      generalize l[k].2 = ver at t1
      have E1 := Lib.hid e1
      have E2 := Lib.hid e2
      have HB0 := Lib.hid hb0
      have HB1 := Lib.hid hb1
      have HOWN := Lib.hid hown
      clear hcw hcell e1 e2 hb0 hb1 HC hown
      cases hnx : nan x with
      | true =>
        rw [hnx] at hc2
        have E1' := E1.out
        have E2' := E2.out
        rw [if_pos hnx, List.append_nil] at E1'
        rw [if_pos hnx] at E2'
        have F1 := Lib.hid E1'
        have F2 := Lib.hid E2'
        clear E1 E2 E1' E2' hnx
        go_wp2_with fail
        refine (class_any _ hx _).mono ?_; rintro e w' ⟨rfl, rfl⟩
        go_wp2_with fail
        go_roundw
        case rel =>
          refine ⟨k + 1, by omega, by go_num, ?_, ?_, ?_, ?_⟩
          · rw [F1.out]
            exact (own_put HOWN.out (p := ⟨w.heap.size + 1, 1, none⟩) (by simp) _).alloc _
          · exact (HB0.out.far (p := ⟨w.heap.size + 1, 1, none⟩) (by simp) _).alloc _
          · have h := (HB1.out.put 1 (.int .i64 ((nons (l.take k) : Int) + 1))).alloc (.cells #[.string ⟨#[115]⟩, .int .i64 ver, .string ⟨#[116]⟩, .string ⟨#[]⟩, .float .f64 x] 50)
            rw [F2.out, Int.natCast_add]
            exact h
          · go_grown
        case measure => simp [intOf]; omega
      | false =>
        rw [hnx] at hc2
        have E1' := E1.out
        have E2' := E2.out
        rw [if_neg (by simp [hnx])] at E1'
        rw [if_neg (by simp [hnx]), Nat.add_zero] at E2'
        have F1 := Lib.hid E1'
        have F2 := Lib.hid E2'
        clear E1 E2 E1' E2' hnx
        go_wp2_with fail
        refine (class_any _ hx _).mono ?_; rintro e w' ⟨rfl, rfl⟩
        have hsz : ((wr.alloc (.cells #[.string ⟨#[115]⟩, .int .i64 ver, .string ⟨#[116]⟩, .string ⟨#[]⟩, .float .f64 x] 50)).alloc (.cells #[.float .f64 x] 26)).heap.size = wr.heap.size + 2 := by simp
        have HSZ := Lib.hid hsz
        clear hsz
        go_wp2_with (at_builtin; refine wpList_append_own _ rfl (.tmp 26) (.tmp 30) 24 rfl (w.heap.size + 2) 26 i26 _ 1 8 Try.underlying24 hi hz0 hz1 hz2 rfl (by decide) _ _ _ rfl ((HOWN.out.alloc _).alloc _) ⟨wr.heap.size + 1, 0, none⟩ 1 1 [.float .f64 x] rfl rfl (by intro j u hj; match j, hj with | 0, hj => (cases hj; go_cell)) (by intro u hu; simp at hu; subst hu; rfl) (by unfold maxLen; omega) (by omega) (by rw [HSZ.out]; omega) ?_; intro v' w1 hown' hgrow _)
        have hnew := Lib.hid hown'
        have hgr := Lib.hid hgrow
        clear hown' hgrow
        go_roundw
        case rel =>
          refine ⟨k + 1, by omega, by go_num, ?_, ?_, ?_, ?_⟩
          · rw [F1.out, fls_snoc, List.length_append]
            exact hnew.out
          · exact ((HB0.out.alloc _).alloc _).grown hgr.out (own_ne HOWN.out (by omega))
          · rw [F2.out, Nat.add_zero]
            exact ((HB1.out.alloc _).alloc _).grown hgr.out (own_ne HOWN.out (by omega))
          · exact ((hbel.alloc hbs _).alloc (by simp; omega) _).grown hgr.out (by simp; omega) (fun j hj => by have := (HOWN.out.lt j hj).1; omega)
        case measure => simp [intOf]; omega
    · obtain rfl : k = l.length := by omega
      rw [List.take_length] at hown hb1
      have HB0 := Lib.hid hb0
      have HB1 := Lib.hid hb1
      have HOWN := Lib.hid hown
      clear hb0 hb1 hown HC
      have hnl := nums_le l
      have hnn := nons_le l
      have hlt' := Lib.hid (nums_lt HL.out)
      go_wp2_with fail
      refine (sum_any (nums l) _ wr (Slc.of_own HOWN.out) (by omega)).mono ?_
      rintro e w1 ⟨s, rfl, hs, hb⟩
      have HS := Lib.hid hs
      have B0 := HB0.out.below hb hs0
      have B1 := HB1.out.below hb hs1
      have O1 := Lib.hid (own_keep HOWN.out hb)
      have hbel1 := hbel.trans (hb.mono hbs)
      have z1 : w1.cell? ⟨w.heap.size + 1, 2, none⟩ = some (.float .f64 0) := B1.cell 2
      have z2 : w1.frozen? ⟨w.heap.size + 1, 2, none⟩ = false := B1.free 2
      have hsz := B1.lt
      have C0 := Lib.hid B0
      have C1 := Lib.hid B1
      clear hs hb B0 B1 HB0 HB1 HOWN hbel
      go_wp2_with fail
      obtain ⟨a, b, ok, hE⟩ := endsV_is (nums l)
      have HE := Lib.hid hE
      clear hE z1 z2
      refine (ends_any (nums l) _ _ (Slc.of_own (own_put O1.out (p := ⟨w.heap.size + 1, 2, none⟩) (by simp) _)) (by omega) hlt'.out).mono ?_
      rintro e w2 ⟨rfl, hb2⟩
      rw [HE.out]
      have hsz0 := C0.out.lt
      have D0 := (C0.out.far (p := ⟨w.heap.size + 1, 2, none⟩) (by simp) (.float .f64 s)).below hb2 (by simpa [World.setCell] using hsz0)
      have D1 : Blk w2 (w.heap.size + 1) 43 #[.int .i64 l.length, .int .i64 (nons l), .float .f64 s, .float .f64 0, .float .f64 0] := (C1.out.put 2 (.float .f64 s)).below hb2 (by simpa [World.setCell] using hsz)
      have hbel2 : Below w.heap.size w w2 := (hbel1.setCell (p := ⟨w.heap.size + 1, 2, none⟩) (by simp) _).trans (hb2.mono (by simp [World.setCell]; omega))
      have r0 : w2.cell? ⟨w.heap.size, 0, none⟩ = some (.int .i64 0) := D0.cell 0
      have r1 : w2.cell? ⟨w.heap.size, 1, none⟩ = some (.int .i64 0) := D0.cell 1
      have r2 : w2.cell? ⟨w.heap.size, 2, none⟩ = some (.float .f64 0) := D0.cell 2
      have r3 : w2.cell? ⟨w.heap.size, 3, none⟩ = some (.float .f64 0) := D0.cell 3
      have r4 : w2.cell? ⟨w.heap.size, 4, none⟩ = some (.float .f64 0) := D0.cell 4
      have q0 : w2.cell? ⟨w.heap.size + 1, 0, none⟩ = some (.int .i64 l.length) := D1.cell 0
      have q1 : w2.cell? ⟨w.heap.size + 1, 1, none⟩ = some (.int .i64 (nons l)) := D1.cell 1
      have q2 : w2.cell? ⟨w.heap.size + 1, 2, none⟩ = some (.float .f64 s) := D1.cell 2
      have q3 : w2.cell? ⟨w.heap.size + 1, 3, none⟩ = some (.float .f64 0) := D1.cell 3
      have q4 : w2.cell? ⟨w.heap.size + 1, 4, none⟩ = some (.float .f64 0) := D1.cell 4
      have f0 : ∀ j, w2.frozen? ⟨w.heap.size, j, none⟩ = false := D0.free
      have f1 : ∀ j, w2.frozen? ⟨w.heap.size + 1, j, none⟩ = false := D1.free
      have hz0' := D0.lt
      have hz1' := D1.lt
      clear D0 D1 hb2 C0 C1 O1 hbel1 hsz0 hsz
      go_wp2_with fail
      rw [Exit.noGoto_ret]
      refine bodyPost_ret (v := gval l.length (nons l) s a b) ?_ rfl ⟨_, rfl, ⟨s, a, b, ok, rfl, HS.out, HE.out⟩, ?_⟩
      · unfold gval
        go_simp
        simp [results, Try.results35, go_sem, r0, r1, r2, r3, r4]
      · exact ((((((hbel2.setCell (p := ⟨w.heap.size + 1, 3, none⟩) (by simp) _).setCell (p := ⟨w.heap.size + 1, 4, none⟩) (by simp) _).setCell (p := ⟨w.heap.size, 0, none⟩) (by simp) _).setCell (p := ⟨w.heap.size, 1, none⟩) (by simp) _).setCell (p := ⟨w.heap.size, 2, none⟩) (by simp) _).setCell (p := ⟨w.heap.size, 3, none⟩) (by simp) _).setCell (p := ⟨w.heap.size, 4, none⟩) (by simp) _
end Wt
end Go.Proofs.Ytimalebcbfhgaaa
