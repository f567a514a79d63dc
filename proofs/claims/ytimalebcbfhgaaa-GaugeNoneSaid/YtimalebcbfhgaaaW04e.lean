/- The walks of weights: the reference's ends. -/
import Derived.Test.YtimalebcbfhgaaaW04d
import Derived.Test.YtimalebcbfhgaaaMem2
namespace Go.Proofs.Ytimalebcbfhgaaa
namespace Wt
open Go.RowKit Fl
theorem still_one {P : Program} {f : FuncId} {args : Array Value} {w : World} {n : Nat} {v : Value} (h : Calls P f args (w.drewN n) fun e w' => e = .returned v ∧ w.drewN n = w') :
    Calls P f args (w.drewN n) fun e w' => e = .returned v ∧ ∃ m, w' = w.drewN m := h.mono fun _ _ q => ⟨q.1, n, q.2.symm⟩
theorem still_two {P : Program} {f : FuncId} {args : Array Value} {w : World} {a n : Nat} {v : Value} (h : Calls P f args (w.drewN (a + n)) fun e w' => e = .returned v ∧ w.drewN (a + n) = w') :
    Calls P f args (w.drewN (a + n)) fun e w' => e = .returned v ∧ ∃ m, w' = w.drewN (a + m) := h.mono fun _ _ q => ⟨q.1, n, q.2.symm⟩
theorem below_any {B : Nat} {a w : World} (h : Below B a w) (hB : B ≤ w.heap.size) (n : Nat) : Below B a (w.drewN n) := h.trans ((below_drewN w n).mono hB)

set_option maxHeartbeats 1000000 in
theorem refends_any (l : List Nat) (v : Value) (w : World) (h : Slc w w.heap.size 1 v l.length (fls l)) (hn : l.length ≤ 1000) (hl : ∀ f ∈ l, f < 2 * S) :
    Calls Try.prog 17 #[v] w fun e w' => e = .returned (endsV l) ∧ Below w.heap.size w w' := by
  obtain ⟨hlen, A, c, rfl, hcells⟩ := h
  have HC := Lib.hid hcells
  have HL := Lib.hid hl
  clear hcells hl hlen
  by_cases h0 : l.length = 0
  · obtain rfl : l = [] := List.eq_nil_of_length_eq_zero h0
    clear HC
    go_enter Try.func17, Try.ntmps17
    go_wp2
    go_ret3
    exact ⟨rfl, Below.refl _ _⟩
  · have hpos : 0 < l.length := by omega
    have hne : ((l.length : Int) == 0) = false := by simpa using h0
    obtain ⟨b, off, rfl, hb, hcell⟩ := HC.out hpos
    have HCE := Lib.hid hcell
    have hEV : endsV l = .tuple #[.float .f64 (loF l[0] l), .float .f64 (hiF l[0] l), .bool true] := by
      unfold endsV
      rw [if_neg (by rw [List.isEmpty_iff]; rintro rfl; simp at hpos), eLo_is hpos, eHi_is hpos]
    have HEV := Lib.hid hEV
    have HL0 : Hid (l[0] < 2 * S) := HL.out _ (List.getElem_mem _)
    clear hcell HC hEV h0
    obtain ⟨a, ha⟩ : ∃ a, l[0] = a := ⟨_, rfl⟩
    rw [ha] at HEV HL0
    have HA := Lib.hid ha
    clear ha
    go_enter Try.func17, Try.ntmps17
    go_wp2_with fail
    go_loopw [5, 6, 7] (fun p q i wr => ∃ k x y : Nat, k ≤ l.length ∧ x < l.length ∧ y < l.length ∧ i = .int .i64 k ∧ p = .int .i64 x ∧ q = .int .i64 y ∧ l[x]? = some (loF a (l.take k)) ∧ l[y]? = some (hiF a (l.take k)) ∧ Below w.heap.size w wr) (fun _ _ i _ => l.length - (intOf i).toNat)
    case atStart => exact ⟨0, 0, 0, Nat.zero_le _, hpos, hpos, rfl, rfl, rfl, by rw [List.getElem?_eq_getElem hpos, HA.out]; rfl, by rw [List.getElem?_eq_getElem hpos, HA.out]; rfl, by go_grown⟩
    case round =>
      obtain ⟨k, x, y, hk, hx, hy, rfl, rfl, rfl, hp, hq, hbel⟩ := hrel
      have hbs := hbel.size
      have cell : ∀ j, (hj : j < l.length) → wr.cell? ⟨b, off + j, none⟩ = some (.float .f64 l[j]) := fun j hj => (hbel.cell (p := ⟨b, off + j, none⟩) hb).trans (HCE.out j _ (fls_get hj))
      have cx := cell x hx
      have cy := cell y hy
      have ex : l[x] = loF a (l.take k) := by rw [List.getElem?_eq_getElem hx] at hp; injection hp
      have ey : l[y] = hiF a (l.take k) := by rw [List.getElem?_eq_getElem hy] at hq; injection hq
      rw [ex] at cx
      rw [ey] at cy
      have HP := Lib.hid hp
      have HQ := Lib.hid hq
      have hxi : (0 : Int) ≤ (x : Int) ∧ (x : Int) < (l.length : Int) := by omega
      have hyi : (0 : Int) ≤ (y : Int) ∧ (y : Int) < (l.length : Int) := by omega
      clear ex ey hp hq
      by_cases hlt : k < l.length
      · have hmem : ∀ f ∈ l.take k, f < 2 * S := fun f hf => HL.out _ (List.mem_of_mem_take hf)
        have ck := cell k hlt
        have hf : l[k] < 2 * S := HL.out _ (List.getElem_mem _)
        have s1 := loF_snoc a (l.take k) l[k]
        have s2 := hiF_snoc a (l.take k) l[k]
        rw [← take_snoc hlt] at s1 s2
        have hfk : l[k]? = some l[k] := List.getElem?_eq_getElem hlt
        have hlo := loF_lt HL0.out hmem
        have hhi := hiF_lt HL0.out hmem
        have d1 : decide (wkey l[k] < wkey (loF a (l.take k))) = lessB l[k] (loF a (l.take k)) := rfl
        have d2 : decide (wkey (hiF a (l.take k)) < wkey l[k]) = lessB (hiF a (l.take k)) l[k] := rfl
        have HFK := Lib.hid hfk
        clear hmem hfk cell
        generalize l[k] = f at ck hf s1 s2 d1 d2 HFK
        generalize loF a (l.take k) = p at cx hlo s1 d1 HP ⊢
        generalize hiF a (l.take k) = q at cy hhi s2 d2 HQ ⊢
        have S1 := Lib.hid s1
        have S2 := Lib.hid s2
        clear s1 s2
        generalize lessB f p = t1 at S1 d1
        generalize lessB q f = t2 at S2 d2
        have hki : (0 : Int) ≤ (k : Int) ∧ (k : Int) < (l.length : Int) := by omega
        cases t1 <;> cases t2
        all_goals
          go_wp2_with fail
          go_quiet ((go_at_call 29; exact still_one (refkey_any _ (by assumption) _)))
          go_wp2_with fail
          go_quiet ((go_at_call 29; exact still_two (refkey_any _ (by assumption) _)))
          go_wp2_with fail
          go_roundw
          case rel =>
            refine ⟨k + 1, _, _, by omega, ?_, ?_, by go_num, rfl, rfl, ?_, ?_, below_any hbel hbs _⟩
            all_goals first
              | (first | exact hx | exact hy | exact hlt)
              | (rw [S1.out]; first | exact HFK.out | exact HP.out)
              | (rw [S2.out]; first | exact HFK.out | exact HQ.out)
          case measure => simp [intOf]; omega
      · obtain rfl : k = l.length := by omega
        rw [List.take_length] at cx cy
        clear cell HP HQ
        generalize loF a l = p at cx HEV
        generalize hiF a l = q at cy HEV
        go_wp2_with fail
        go_region
        go_wp2_with fail
        go_ret3
        exact ⟨by rw [HEV.out]; rfl, by go_grown⟩
end Wt
end Go.Proofs.Ytimalebcbfhgaaa
