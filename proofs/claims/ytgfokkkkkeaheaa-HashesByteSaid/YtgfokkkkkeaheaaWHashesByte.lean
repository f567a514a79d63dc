import Derived.Test.YtgfokkkkkeaheaaW03
import Derived.Test.YtgfokkkkkeaheaaOpen
import Derived.WalkSpells
import Derived.RegionTactic
import Derived.Handy
namespace Go.Proofs.Ytgfokkkkkeaheaa.hashesByte
open Go.ChangeShapes Go.WideShapes Go.ChangeAt Go.RowKit
theorem walk (a0 : Int) (a1 : ByteArray) (x y : Int) (w0 : (Lit.int .u64 a0).wf = true) (w1 : a1.size ≤ maxLen) (w2 : (Lit.int .u8 x).wf = true) (w3 : (Lit.int .u8 y).wf = true) (w : World) :
    Calls Try.prog 4 #[.int .u64 a0, .string a1, .agg #[.int .u8 x, .int .u8 y]] w fun e w' => e = .returned (.bool true) ∧ Below w.heap.size w w' := by
  obtain ⟨h0, h0'⟩ := u64_of w0
  obtain ⟨hx, hx'⟩ := u8_of w2
  obtain ⟨hy, hy'⟩ := u8_of w3
  have hsz := w1
  unfold maxLen at hsz
  clear w0 w2 w3
  by_cases hl : a1.size = 0
  · have hl' : ((a1.size : Int) == 0) = true := by simpa using hl
    clear w1
    go_enter Try.func4, Try.ntmps4
    go_wp2_with (go_at_call 15; refine (Hs.hashed_any _).mono ?_; rintro e w' ⟨rfl, rfl⟩)
    go_ret
    exact ⟨rfl, by go_grown⟩
  have hl' : ((a1.size : Int) == 0) = false := by simpa using hl
  by_cases hl2 : 500 < a1.size
  · clear w1
    go_enter Try.func4, Try.ntmps4
    go_wp2_with (go_at_call 15; refine (Hs.hashed_any _).mono ?_; rintro e w' ⟨rfl, rfl⟩)
    go_ret
    exact ⟨rfl, by go_grown⟩
  by_cases e0 : a0 = 0
  · have e0' : (a0 == 0) = true := by simpa using e0
    clear w1 e0
    go_enter Try.func4, Try.ntmps4
    go_wp2_with (go_at_call 15; refine (Hs.hashed_any _).mono ?_; rintro e w' ⟨rfl, rfl⟩)
    go_ret
    exact ⟨rfl, by go_grown⟩
  have b0 : (a0 == 0) = false := by simpa using e0
  by_cases ey : y = 0
  · have ey' : (y == 0) = true := by simpa using ey
    clear w1 ey
    go_enter Try.func4, Try.ntmps4
    go_wp2_with (go_at_call 15; refine (Hs.hashed_any _).mono ?_; rintro e w' ⟨rfl, rfl⟩)
    go_ret
    exact ⟨rfl, by go_grown⟩
  have by0 : (y == 0) = false := by simpa using ey
  obtain ⟨cap, W2, hconv, hbel, hsize, hcell, hfr⟩ := conv_bytes (P := Try.prog) (w.alloc (.cells #[.int .u8 x, .int .u8 y] 27)) 9 28 5 a1 Try.underlying9 Try.underlying28 Try.underlying5
  rw [World.size_alloc] at hconv hbel hsize hcell hfr
  have hcx : W2.cell? ⟨w.heap.size, 0, none⟩ = some (.int .u8 x) := by
    rw [hbel.cell (p := ⟨w.heap.size, 0, none⟩) (by simp)]
    go_cell
  have hcy : W2.cell? ⟨w.heap.size, 1, none⟩ = some (.int .u8 y) := by
    rw [hbel.cell (p := ⟨w.heap.size, 1, none⟩) (by simp)]
    go_cell
  have hkr : 0 ≤ x % (a1.size : Int) ∧ x % (a1.size : Int) < (a1.size : Int) := ⟨Int.emod_nonneg _ (by omega), Int.emod_lt_of_pos _ (by omega)⟩
  obtain ⟨k, hk⟩ : ∃ k : Nat, x % (a1.size : Int) = (k : Int) := ⟨(x % (a1.size : Int)).toNat, by omega⟩
  rw [hk] at hkr
  have hkl : k < a1.size := by omega
  have hck : W2.cell? ⟨w.heap.size + 1, k, none⟩ = some (.int .u8 ((a1[k]'hkl).toNat : Int)) := hcell k hkl
  have hfk : W2.frozen? ⟨w.heap.size + 1, k, none⟩ = false := hfr k hkl
  obtain ⟨yb, hyb⟩ : ∃ yb : UInt8, y = (yb.toNat : Int) := ⟨UInt8.ofNat y.toNat, by rw [UInt8.toNat_ofNat']; omega⟩
  have hv : bits .xor .u8 ((a1[k]'hkl).toNat : Int) y = (((a1[k]'hkl) ^^^ yb).toNat : Int) := by rw [hyb, xor_u8]
  have hback := conv_back (P := Try.prog) W2 (w.heap.size + 1) cap k 28 9 5 a1 ((a1[k]'hkl) ^^^ yb) Try.underlying28 Try.underlying5 Try.underlying9 hkl hcell
  rw [← hv] at hback
  obtain ⟨s2, hs2⟩ : ∃ s2 : ByteArray, s2 = ⟨(a1.data.toList.set k ((a1[k]'hkl) ^^^ yb)).toArray⟩ := ⟨_, rfl⟩
  rw [← hs2] at hback
  have w2 : s2.size ≤ maxLen := by
    have : s2.size = a1.size := by
      rw [hs2]
      show (a1.data.toList.set k _).toArray.size = _
      rw [List.size_toArray, List.length_set]; rfl
    omega
  have hne : (((Hs.hash (BitVec.ofInt 64 a0) s2.data.toList).toNat : Int) != ((Hs.hash (BitVec.ofInt 64 a0) a1.data.toList).toNat : Int)) = true := by
    rw [bne_iff_ne]
    intro hc
    obtain ⟨z, hz⟩ := Hs.of_u a0 h0 h0'
    have hz0 : BitVec.ofInt 64 a0 ≠ 0#64 := by
      rw [hz, BitVec.ofInt_natCast, BitVec.ofNat_toNat, BitVec.setWidth_eq]
      rintro rfl
      exact e0 (by rw [hz]; rfl)
    have hh := BitVec.eq_of_toNat_eq (x := Hs.hash (BitVec.ofInt 64 a0) s2.data.toList) (y := Hs.hash (BitVec.ofInt 64 a0) a1.data.toList) (by exact_mod_cast hc)
    have hkl' : k < a1.data.toList.length := by simpa using hkl
    have e1 : a1.data.toList = a1.data.toList.take k ++ (a1[k]'hkl) :: a1.data.toList.drop (k + 1) := by
      have h1 : a1.data.toList[k] = a1[k]'hkl := rfl
      rw [← h1, ← List.drop_eq_getElem_cons hkl', List.take_append_drop]
    have e2 : s2.data.toList = a1.data.toList.take k ++ ((a1[k]'hkl) ^^^ yb) :: a1.data.toList.drop (k + 1) := by
      rw [hs2]
      show a1.data.toList.set k _ = _
      rw [List.set_eq_take_append_cons_drop, if_pos hkl']
    rw [e2] at hh
    have hh2 : Hs.hash (BitVec.ofInt 64 a0) (a1.data.toList.take k ++ ((a1[k]'hkl) ^^^ yb) :: a1.data.toList.drop (k + 1)) = Hs.hash (BitVec.ofInt 64 a0) (a1.data.toList.take k ++ (a1[k]'hkl) :: a1.data.toList.drop (k + 1)) := by rw [hh, ← e1]
    have hb := Hs.hash_byte _ _ _ _ _ hz0 hh2
    have : yb = 0 := by
      have h3 := congrArg (fun b => (a1[k]'hkl) ^^^ b) hb
      simp only [← UInt8.xor_assoc, UInt8.xor_self, UInt8.zero_xor] at h3
      exact h3
    exact ey (by rw [hyb, this]; rfl)
  have W1 := Lib.hid w1
  have W2' := Lib.hid w2
  have HC := Lib.hid hcell
  clear w1 hcell hfr w2 hs2 hv hyb
  go_enter Try.func4, Try.ntmps4
  go_wp2_with fail
  go_region
  go_wp2_with fail
  refine (Hs.hash_any _ _ _ h0 h0' W2'.out).mono ?_; rintro e w' ⟨rfl, rfl⟩
  go_wp2_with fail
  refine (Hs.hash_any _ _ _ h0 h0' W1.out).mono ?_; rintro e w' ⟨rfl, rfl⟩
  go_wp2_with fail
  refine (Hs.hashed_any _).mono ?_; rintro e w' ⟨rfl, rfl⟩
  go_wp2_with fail
  go_ret
  refine ⟨rfl, Below.drew (Below.setCell (Below.trans ((Below.refl _ _).alloc (Nat.le_refl _) _) (hbel.mono (by omega))) (by simp) _)⟩
end Go.Proofs.Ytgfokkkkkeaheaa.hashesByte
