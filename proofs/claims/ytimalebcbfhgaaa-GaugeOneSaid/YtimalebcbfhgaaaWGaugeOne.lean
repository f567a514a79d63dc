/- The walk of GaugeOne. -/
import Derived.Test.YtimalebcbfhgaaaW28e
import Derived.Test.YtimalebcbfhgaaaOpen04
import Derived.Test.YtimalebcbfhgaaaPlainG
import Derived.Test.YtimalebcbfhgaaaPlainS
import Derived.Deep.DeepCutAuto
namespace Go.Proofs.Ytimalebcbfhgaaa
open Go.RowKit Fl Wt
namespace gaugeOne
attribute [local go_sem] run_store_number
def num (f : Nat) : Bool := !nan f
theorem hT_nan {f : Nat} (h : hT f = true) : nan f = false := by
  cases hn : nan f with
  | false => rfl
  | true => unfold hT at h; rw [order_none _ hn] at h; cases h
theorem lT_nan {f : Nat} (h : lT f = true) : nan f = false := by
  cases hn : nan f with
  | false => rfl
  | true => unfold lT at h; rw [order_none _ hn] at h; cases h
/-- a sum that is no number asks for weights beyond great ones, with either sign -/
theorem both_sides {l : List Nat} {s : Nat} (hl : l.length ≤ 100) (hs : IsSum (l.filter fun x => !nan x) s) (hn : nan s = true) : l.any hT = true ∧ l.any lT = true := by
  have hlen : (l.filter fun x => !nan x).length ≤ 1000 := Nat.le_trans (List.length_filter_le _ _) (by omega)
  have hnum : ∀ f ∈ l.filter (fun x => !nan x), nan f = false := fun f hf => by simpa using (List.mem_filter.1 hf).2
  have hc : ∀ c, fsum (l.filter fun x => !nan x) = some c → False := by
    intro c hc
    have := fsum_num hc
    rw [← hs.at_some' hc, hn] at this
    cases this
  constructor
  · cases h : l.any hT with
    | true => rfl
    | false =>
      obtain ⟨c, e, _⟩ := fsum_side false (l.filter fun x => !nan x) hlen fun f hf => ⟨hnum f hf, hT_false (hnum f hf) (any_not h (List.mem_filter.1 hf).1)⟩
      exact (hc c e).elim
  · cases h : l.any lT with
    | true => rfl
    | false =>
      obtain ⟨c, e, _⟩ := fsum_side true (l.filter fun x => !nan x) hlen fun f hf => ⟨hnum f hf, lT_false (hnum f hf) (any_not h (List.mem_filter.1 hf).1)⟩
      exact (hc c e).elim
theorem count_snoc {l : List Nat} {k : Nat} (h : k < l.length) : (l.take (k + 1)).countP num = (l.take k).countP num + (if num l[k] = true then 1 else 0) := by
  rw [take_snoc h, List.countP_append]
  congr 1
  cases hn : num l[k] <;> simp [hn]
set_option maxHeartbeats 4000000 in
set_option maxRecDepth 100000 in
theorem walk (l : List Nat) (v : Value) (w : World) (h : Slc w w.heap.size 1 v l.length (u64s l)) (hl : ∀ x ∈ l, x < 2 * S) :
    Calls Try.prog 11 #[v] w fun e w' => e = .returned (.bool true) ∧ Below w.heap.size w w' := by
  have H0 := Lib.hid h
  have HL := Lib.hid hl
  obtain ⟨_, A, c, rfl, hcells⟩ := h
  have HC := Lib.hid hcells
  clear hl hcells
  by_cases hbig : 60 < l.length
  · go_enter Try.func11, Try.ntmps11
    go_wp2_with fail
    refine (gauged_any _).mono ?_; rintro e w3 ⟨rfl, hb3⟩
    go_wp2_with fail
    go_ret
    exact ⟨rfl, hb3⟩
  have ZL : Hid (l.zipIdx.length ≤ 1000) := by show l.zipIdx.length ≤ 1000; rw [List.length_zipIdx]; omega
  have PL := Lib.hid (zip_lt HL.out)
  go_enter Try.func11, Try.ntmps11
  go_wp2_with fail
  refine (told_any l _ w H0.out (by omega)).mono ?_
  rintro e w1 ⟨v1, rfl, hown1, hb1⟩
  go_wp2_with fail
  refine (of_any l.zipIdx v1 w1 (Slc.of_own hown1) ZL.out PL.out).mono ?_
  rintro e w2 ⟨g1, rfl, hg1, hb2⟩
  obtain ⟨s, p, q, o1, rfl, hs, e1⟩ := hg1
  have cnt := nums_count l.zipIdx
  have hnl := nums_lt PL.out
  rw [nums_zip] at hs e1 cnt hnl
  rw [List.length_zipIdx] at cnt
  have hb02 := hb1.trans (hb2.mono hb1.size)
  have E1 := Lib.hid e1
  have HS := Lib.hid hs
  have HNL := Lib.hid hnl
  have CNT := Lib.hid cnt
  clear hb1 hb2 hown1 e1 hs hnl
  unfold gval
  rw [List.length_zipIdx]
  generalize nons l.zipIdx = nn at CNT cnt ⊢
  obtain ⟨wx, hx⟩ : ∃ wx, w2.alloc (.cells #[.int .i64 (l.length : Int), .int .i64 (nn : Int), .float .f64 s, .float .f64 p, .float .f64 q] 43) = wx := ⟨_, rfl⟩
  have hA : Blk wx w2.heap.size 43 #[.int .i64 (l.length : Int), .int .i64 (nn : Int), .float .f64 s, .float .f64 p, .float .f64 q] := by rw [← hx]; exact Blk.made _ _ _
  have hb0x : Below w.heap.size w wx := by rw [← hx]; exact hb02.alloc hb02.size _
  have HX := Lib.hid hx
  clear hx cnt
  go_wp2_with fail
  rw [HX.out]
  generalize w2.heap.size = G at hA ⊢
  have a1 : wx.cell? ⟨G, 1, none⟩ = some (.int .i64 (nn : Int)) := hA.cell 1
  have a2 : wx.cell? ⟨G, 2, none⟩ = some (.float .f64 s) := hA.cell 2
  have a3 : wx.cell? ⟨G, 3, none⟩ = some (.float .f64 p) := hA.cell 3
  have a4 : wx.cell? ⟨G, 4, none⟩ = some (.float .f64 q) := hA.cell 4
  have lG := hA.lt
  clear HX hb02 hA
  obtain ⟨t1, ht1⟩ : ∃ t : Nat → Bool, (fun f => num f && sameB f p) = t := ⟨_, rfl⟩
  obtain ⟨t2, ht2⟩ : ∃ t : Nat → Bool, (fun f => num f && sameB f q) = t := ⟨_, rfl⟩
  have T1 : Hid (∀ f, t1 f = (num f && sameB f p)) := fun f => by rw [← ht1]
  have T2 : Hid (∀ f, t2 f = (num f && sameB f q)) := fun f => by rw [← ht2]
  clear ht1 ht2
  go_loopw [4, 5, 6, 7, 8, 9] (fun x y u d n i wr => ∃ k : Nat, k ≤ l.length ∧ i = .int .i64 k ∧ x = .bool ((l.take k).any t1) ∧ y = .bool ((l.take k).any t2) ∧ u = .bool ((l.take k).any hT) ∧ d = .bool ((l.take k).any lT) ∧ n = .int .i64 ((l.take k).countP num) ∧ wx = wr) (fun _ _ _ _ _ i _ => l.length - (intOf i).toNat)
  case atStart => exact ⟨0, Nat.zero_le _, rfl, rfl, rfl, rfl, rfl, rfl, rfl⟩
  case round =>
    obtain ⟨k, hk, rfl, rfl, rfl, rfl, rfl, rfl, rfl⟩ := hrel
    by_cases hlt : k < l.length
    · obtain ⟨b0, off0, rfl, hlt0, hcell0⟩ := HC.out (by omega)
      have ck0 : wx.cell? ⟨b0, off0 + k, none⟩ = some (.int .u64 (l[k] : Int)) := (hb0x.cell (p := ⟨b0, off0 + k, none⟩) hlt0).trans (hcell0 k _ (u64s_get hlt))
      have A1 := Lib.hid (any_snoc t1 hlt)
      have A2 := Lib.hid (any_snoc t2 hlt)
      have A3 := Lib.hid (any_snoc hT hlt)
      have A4 := Lib.hid (any_snoc lT hlt)
      have A5 := Lib.hid (count_snoc hlt)
      have hcb : (l.take k).countP num ≤ 60 := Nat.le_trans List.countP_le_length (by rw [List.length_take]; omega)
      have hfb := frombits (l[k] : Int)
      rw [Int.toNat_natCast] at hfb
      have n1 : (FloatKind.f64.format.order l[k] l[k] != some .eq) = nan l[k] := neq_self l[k]
      have r4 : (FloatKind.f64.format.order l[k] 9094988921128908188 == some .gt) = hT l[k] := rfl
      have r5 : (FloatKind.f64.format.order l[k] 18318360957983683996 == some .lt) = lT l[k] := rfl
      have hf := HL.out _ (List.getElem_mem hlt)
      cases hn : nan l[k] with
      | true =>
        rw [hn] at n1
        have u1 : t1 l[k] = false := by rw [T1.out]; unfold num; rw [hn]; rfl
        have u2 : t2 l[k] = false := by rw [T2.out]; unfold num; rw [hn]; rfl
        have u3 : hT l[k] = false := by
          cases h : hT l[k] with
          | false => rfl
          | true => have := hT_nan h; rw [hn] at this; cases this
        have u4 : lT l[k] = false := by
          cases h : lT l[k] with
          | false => rfl
          | true => have := lT_nan h; rw [hn] at this; cases this
        have u5 : num l[k] = false := by unfold num; rw [hn]; rfl
        rw [u1, Bool.or_false] at A1
        rw [u2, Bool.or_false] at A2
        rw [u3, Bool.or_false] at A3
        rw [u4, Bool.or_false] at A4
        rw [if_neg (by simp [u5]), Nat.add_zero] at A5
        clear hn u1 u2 u3 u4 u5 r4 r5 hf hcell0 HC
        generalize l[k] = f at ck0 hfb n1
        go_wp2_with fail
        go_roundw
        case rel => exact ⟨k + 1, by omega, by go_num, by rw [A1.out], by rw [A2.out], by rw [A3.out], by rw [A4.out], by rw [A5.out, Nat.add_zero], trivial⟩
        case measure => simp [intOf]; omega
      | false =>
        rw [hn] at n1
        have hmem : l[k] ∈ l.filter (fun x => !nan x) := List.mem_filter.2 ⟨List.getElem_mem hlt, by rw [hn]; rfl⟩
        have hne : l.filter (fun x => !nan x) ≠ [] := List.ne_nil_of_mem hmem
        obtain ⟨f1, f2⟩ := ends_is hne E1.out
        have hp : p < 2 * S := by rw [f1]; exact HNL.out _ (eLo_spec hne).1
        have hq : q < 2 * S := by rw [f2]; exact HNL.out _ (eHi_spec hne).1
        have l1 : lessB l[k] p = false := (less_not _ _).2 (by rw [f1]; exact (eLo_spec hne).2 _ hmem)
        have l2 : lessB q l[k] = false := (less_not _ _).2 (by rw [f2]; exact (eHi_spec hne).2 _ hmem)
        have u1 : t1 l[k] = sameB l[k] p := by rw [T1.out]; unfold num; rw [hn]; rfl
        have u2 : t2 l[k] = sameB l[k] q := by rw [T2.out]; unfold num; rw [hn]; rfl
        have u5 : num l[k] = true := by unfold num; rw [hn]; rfl
        rw [u1] at A1
        rw [u2] at A2
        rw [if_pos u5] at A5
        have L1 := Lib.hid (less_any l[k] p hf hp)
        have L2 := Lib.hid (less_any q l[k] hq hf)
        rw [l1] at L1
        rw [l2] at L2
        have S1 := Lib.hid (same_any l[k] p)
        have S2 := Lib.hid (same_any l[k] q)
        clear hn u1 u2 u5 hmem hne f1 f2 hcell0 HC l1 l2 hp hq hf
        generalize sameB l[k] p = c1 at A1 S1
        generalize sameB l[k] q = c2 at A2 S2
        generalize hT l[k] = c3 at A3 r4
        generalize lT l[k] = c4 at A4 r5
        generalize l[k] = f at ck0 hfb n1 r4 r5 L1 L2 S1 S2
        generalize (l.take k).any t1 = d1 at A1 ⊢
        generalize (l.take k).any t2 = d2 at A2 ⊢
        generalize (l.take k).any hT = d3 at A3 ⊢
        generalize (l.take k).any lT = d4 at A4 ⊢
        generalize (l.take k).countP num = cn at A5 hcb ⊢
        go_wp2_with fail
        refine (L1.out _).mono ?_; rintro e w' ⟨rfl, rfl⟩
        go_wp2_with fail
        refine (L2.out _).mono ?_; rintro e w' ⟨rfl, rfl⟩
        clear ck0 hfb n1
        go_upto_region 14 with fail
        go_cut [4] (fun r wz => r = .bool (d1 || c1) ∧ wx = wz)
        case first =>
          cases d1
          · go_wp2_with fail
            refine (S1.out _).mono ?_; rintro e w' ⟨rfl, rfl⟩
            go_wp2_with fail
            go_meet
            exact ⟨rfl, rfl⟩
          · go_wp2_with fail
            go_meet
            exact ⟨rfl, rfl⟩
        case rest =>
          obtain ⟨rfl, rfl⟩ := hcut
          go_upto_region 15 with fail
          go_cut [5] (fun r wz => r = .bool (d2 || c2) ∧ wx = wz)
          case first =>
            cases d2
            · go_wp2_with fail
              refine (S2.out _).mono ?_; rintro e w' ⟨rfl, rfl⟩
              go_wp2_with fail
              go_meet
              exact ⟨rfl, rfl⟩
            · go_wp2_with fail
              go_meet
              exact ⟨rfl, rfl⟩
          case rest =>
            obtain ⟨rfl, rfl⟩ := hcut
            go_upto_region 16 with fail
            go_cut [6] (fun r wz => r = .bool (d3 || c3) ∧ wx = wz)
            case first => cases d3 <;> (go_wp2_with fail; go_meet; exact ⟨rfl, rfl⟩)
            case rest =>
              obtain ⟨rfl, rfl⟩ := hcut
              clear r4
              have A4' := A4.out
              clear A4
              cases d4
              all_goals
                have B4 := Lib.hid A4'
                clear A4'
                go_wp2_with fail
                go_roundw
                case rel => exact ⟨k + 1, by omega, by go_num, by rw [A1.out], by rw [A2.out], by rw [A3.out], by rw [B4.out]; rfl, by rw [A5.out]; rfl, trivial⟩
                case measure => simp [intOf]; omega
    · obtain rfl : k = l.length := by omega
      rw [List.take_length]
      have hcn : l.countP num = (l.filter fun x => !nan x).length := List.countP_eq_length_filter
      have hcl : l.countP num ≤ l.length := List.countP_le_length
      have hsum := CNT.out
      rw [← hcn] at hsum
      have n1 : (FloatKind.f64.format.order s s == some .eq) = !nan s := by rw [← neq_self s]; unfold bne; rw [Bool.not_not]; rfl
      by_cases h0 : l.countP num = 0
      · have hnil : l.filter (fun x => !nan x) = [] := List.eq_nil_of_length_eq_zero (by rw [← hcn, h0])
        have hs0 := HS.out
        have he0 := E1.out
        rw [hnil] at hs0 he0
        obtain rfl := hs0.at_some' (show fsum [] = some 0 from rfl)
        obtain ⟨rfl, rfl⟩ := ends_nil he0
        have y1 : ((l.countP num : Int) == 0) = true := by rw [beq_iff_eq]; omega
        have y2 : ((nn : Int) == (l.length : Int)) = true := by rw [beq_iff_eq]; omega
        have y3 : sameB 0 0 = true := by decide
        have C := Lib.hid (same_any 0 0)
        rw [y3] at C
        clear hnil hs0 he0 h0 hcn hcl hsum n1 y3
        generalize l.countP num = cn at y1 ⊢
        generalize l.any t1 = d1
        generalize l.any t2 = d2
        generalize l.any hT = d3
        generalize l.any lT = d4
        go_wp2_with fail
        refine (C.out _).mono ?_; rintro e w' ⟨rfl, rfl⟩
        go_wp2_with fail
        refine (C.out _).mono ?_; rintro e w' ⟨rfl, rfl⟩
        go_wp2_with fail
        refine (C.out _).mono ?_; rintro e w' ⟨rfl, rfl⟩
        go_wp2_with fail
        refine (gauged_any _).mono ?_; rintro e w3 ⟨rfl, hb3⟩
        go_wp2_with fail
        go_ret
        exact ⟨rfl, hb0x.trans (hb3.mono hb0x.size)⟩
      · have y1 : ((l.countP num : Int) == 0) = false := by rw [beq_eq_false_iff_ne]; omega
        have y2 : ((nn : Int) == (l.length : Int) - (l.countP num : Int)) = true := by rw [beq_iff_eq]; omega
        have hne : l.filter (fun x => !nan x) ≠ [] := by intro h; rw [h] at hcn; simp at hcn; exact h0 (by rw [List.countP_eq_zero]; simpa using hcn)
        obtain ⟨f1, f2⟩ := ends_is hne E1.out
        have m1 := (eLo_spec hne).1
        have m2 := (eHi_spec hne).1
        rw [← f1] at m1
        rw [← f2] at m2
        have d1 : l.any t1 = true := List.any_eq_true.2 ⟨p, (List.mem_filter.1 m1).1, by rw [T1.out]; unfold num sameB; have := (List.mem_filter.1 m1).2; simpa using this⟩
        have d2 : l.any t2 = true := List.any_eq_true.2 ⟨q, (List.mem_filter.1 m2).1, by rw [T2.out]; unfold num sameB; have := (List.mem_filter.1 m2).2; simpa using this⟩
        have d3 : nan s = true → l.any hT = true ∧ l.any lT = true := both_sides (by omega) HS.out
        rw [d1, d2]
        clear hne f1 f2 m1 m2 d1 d2 h0 hcn hsum
        generalize l.countP num = cn at y1 y2 hcl ⊢
        generalize nan s = b at n1 d3
        generalize l.any hT = d4 at d3 ⊢
        generalize l.any lT = d5 at d3 ⊢
        cases b
        · clear d3
          go_wp2_with fail
          refine (gauged_any _).mono ?_; rintro e w3 ⟨rfl, hb3⟩
          go_wp2_with fail
          go_ret
          exact ⟨rfl, hb0x.trans (hb3.mono hb0x.size)⟩
        · obtain ⟨rfl, rfl⟩ := d3 rfl
          clear d3
          go_wp2_with fail
          refine (gauged_any _).mono ?_; rintro e w3 ⟨rfl, hb3⟩
          go_wp2_with fail
          go_ret
          exact ⟨rfl, hb0x.trans (hb3.mono hb0x.size)⟩
end gaugeOne
end Go.Proofs.Ytimalebcbfhgaaa
