/- The walks of weights: the ends. -/
import Derived.Test.YtimalebcbfhgaaaW04c
namespace Go.Proofs.Ytimalebcbfhgaaa
namespace Wt
open Go.RowKit Fl
theorem eLo_is {l : List Nat} (h : 0 < l.length) : eLo l = loF l[0] l := by unfold eLo; rw [List.getD_eq_getElem?_getD, List.getElem?_eq_getElem h]; rfl
theorem eHi_is {l : List Nat} (h : 0 < l.length) : eHi l = hiF l[0] l := by unfold eHi; rw [List.getD_eq_getElem?_getD, List.getElem?_eq_getElem h]; rfl

theorem ends_any (l : List Nat) (v : Value) (w : World) (h : Slc w w.heap.size 1 v l.length (fls l)) (hn : l.length ≤ 1000) (hl : ∀ f ∈ l, f < 2 * S) :
    Calls Try.prog 16 #[v] w fun e w' => e = .returned (endsV l) ∧ Below w.heap.size w w' := by
  obtain ⟨hlen, A, c, rfl, hcells⟩ := h
  have HC := Lib.hid hcells
  have HL := Lib.hid hl
  clear hcells hl hlen
  by_cases h0 : l.length = 0
  · obtain rfl : l = [] := List.eq_nil_of_length_eq_zero h0
    clear HC
    go_enter Try.func16, Try.ntmps16
    go_wp2_with fail
    go_step3
    go_wp2_with fail
    rw [Exit.noGoto_ret]
    go_ret3
    exact ⟨rfl, Below.refl _ _⟩
  · have hpos : 0 < l.length := by omega
    have hne : ((l.length : Int) == 0) = false := by simpa using h0
    obtain ⟨b, off, rfl, hb, hcell⟩ := HC.out hpos
    have c0 : w.cell? ⟨b, off, none⟩ = some (.float .f64 l[0]) := hcell 0 _ (fls_get hpos)
    have HCE := Lib.hid hcell
    have hEV : endsV l = .tuple #[.float .f64 (loF l[0] l), .float .f64 (hiF l[0] l), .bool true] := by
      unfold endsV
      rw [if_neg (by rw [List.isEmpty_iff]; rintro rfl; simp at hpos), eLo_is hpos, eHi_is hpos]
    have HEV := Lib.hid hEV
    have HL0 : Hid (l[0] < 2 * S) := HL.out _ (List.getElem_mem _)
    clear hcell HC hEV h0
    generalize l[0] = a at c0 HEV HL0
    go_enter Try.func16, Try.ntmps16
    go_wp2_with fail
    go_step3
    go_wp2_with fail
    go_region
    go_wp2_with fail
    go_step3
    go_wp2_with fail
    clear c0
    go_loopw [2, 3, 18] (fun p q i wr => ∃ k : Nat, k ≤ l.length ∧ i = .int .i64 k ∧ p = .float .f64 (loF a (l.take k)) ∧ q = .float .f64 (hiF a (l.take k)) ∧ Below w.heap.size w wr) (fun _ _ i _ => l.length - (intOf i).toNat)
    case atStart => exact ⟨0, Nat.zero_le _, rfl, rfl, rfl, by go_grown⟩
    case round =>
      obtain ⟨k, hk, rfl, rfl, rfl, hbel⟩ := hrel
      have hbs := hbel.size
      by_cases hlt : k < l.length
      · have hmem : ∀ f ∈ l.take k, f < 2 * S := fun f hf => HL.out _ (List.mem_of_mem_take hf)
        have ck : wr.cell? ⟨b, off + k, none⟩ = some (.float .f64 l[k]) := (hbel.cell (p := ⟨b, off + k, none⟩) hb).trans (HCE.out k _ (fls_get hlt))
        have hf : l[k] < 2 * S := HL.out _ (List.getElem_mem _)
        have s1 := loF_snoc a (l.take k) l[k]
        have s2 := hiF_snoc a (l.take k) l[k]
        rw [← take_snoc hlt] at s1 s2
        have C1 := Lib.hid (less_any l[k] (loF a (l.take k)) hf (loF_lt HL0.out hmem))
        have C2 := Lib.hid (less_any (hiF a (l.take k)) l[k] (hiF_lt HL0.out hmem) hf)
        have hx : lessB l[k] (loF a (l.take k)) = true → lessB (hiF a (l.take k)) l[k] = false := by
          intro h
          rw [less_is] at h
          rw [less_not]
          have := lo_le_hi a (l.take k)
          omega
        generalize l[k] = f at ck C1 C2 s1 s2 hx
        generalize loF a (l.take k) = p at C1 s1 hx ⊢
        generalize hiF a (l.take k) = q at C2 s2 hx ⊢
        have S1 := Lib.hid s1
        have S2 := Lib.hid s2
        clear s1 s2 hmem hf
        generalize lessB f p = t1 at C1 S1 hx
        generalize lessB q f = t2 at C2 S2 hx
        cases t1 with
        | true =>
          obtain rfl := hx rfl
          clear hx
          go_wp2_with fail
          refine (C1.out _).mono ?_; rintro e w' ⟨rfl, rfl⟩
          go_wp2_with fail
          go_roundw
          case rel => exact ⟨k + 1, by omega, by go_num, by rw [S1.out]; rfl, by rw [S2.out]; rfl, hbel⟩
          case measure => simp [intOf]; omega
        | false =>
          clear hx
          cases t2
          all_goals
            go_wp2_with fail
            refine (C1.out _).mono ?_; rintro e w' ⟨rfl, rfl⟩
            go_wp2_with fail
            refine (C2.out _).mono ?_; rintro e w' ⟨rfl, rfl⟩
            go_wp2_with fail
            go_roundw
            case rel => exact ⟨k + 1, by omega, by go_num, by rw [S1.out]; rfl, by rw [S2.out]; rfl, hbel⟩
            case measure => simp [intOf]; omega
      · obtain rfl : k = l.length := by omega
        rw [List.take_length]
        generalize loF a l = p at HEV ⊢
        generalize hiF a l = q at HEV ⊢
        go_wp2_with fail
        rw [Exit.noGoto_ret]
        go_ret3
        exact ⟨by rw [HEV.out]; rfl, hbel⟩
end Wt
end Go.Proofs.Ytimalebcbfhgaaa
