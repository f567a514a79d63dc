import Derived.Test.YtgfokkkkkeaheaaW17d
import Derived.Test.YtgfokkkkkeaheaaOpen
namespace Go.Proofs.Ytgfokkkkkeaheaa.midsMany
open Go.RowKit
theorem walk (a0 : Int) (w0 : (Lit.int .u16 a0).wf = true) (w : World) :
    Calls Try.prog 11 #[.int .u16 a0] w fun e w' => e = .returned (.bool true) ∧ Below w.heap.size w w' := by
  obtain ⟨h0, h1⟩ := u16_of w0
  clear w0
  obtain ⟨n, hn⟩ : ∃ n : Nat, a0 % 300 = (n : Int) := ⟨(a0 % 300).toNat, by omega⟩
  have hn3 : n < 300 := by omega
  have hlen : (Md.mk (Md.rowL n)).length ≤ 1000 ∧ (0 < n → ((Md.mk (Md.rowL n)).length : Int) = (((n : Int) - 1 + 7) / 8) + 1) ∧ (n = 0 → (Md.mk (Md.rowL n)).length = 0) := by
    have e := Md.rowL_len n
    refine ⟨?_, fun hp => ?_, ?_⟩
    · have := Md.mkTo_le (Md.rowL n) (Md.rowL n).length
      unfold Md.mk
      omega
    · rw [Md.mk_count _ (by omega), e]
      omega
    · rintro rfl
      rfl
  obtain ⟨hl1, hl2, hl3⟩ := hlen
  have HL2 := Lib.hid hl2
  have HL3 := Lib.hid hl3
  clear hl2 hl3
  go_enter Try.func11, Try.ntmps11
  go_wp2_with fail
  refine (Md.row_any n _ (by omega)).mono ?_
  rintro e w1 ⟨v1, rfl, hown, hb1⟩
  go_wp2_with fail
  have hs1 := Slc.of_own hown
  have er := Md.rowL_len n
  refine (Md.make_any (Md.rowL n) v1 w1 (by rw [er]; exact hs1) (by omega)).mono ?_
  rintro e w2 ⟨v2, rfl, hs2, hb2⟩
  clear hs1 hown er
  obtain ⟨hs2l, A2, c2, rfl, hs2c⟩ := hs2
  clear hs2c hs2l
  generalize hL : (Md.mk (Md.rowL n)).length = L at *
  have HL := Lib.hid hL
  clear hL
  by_cases hz : n = 0
  · subst hz
    have hL0 : L = 0 := HL3.out rfl
    subst hL0
    go_wp2_with (go_at_call 20; refine (Md.middle_any _).mono ?_; rintro e w3 ⟨rfl, hb3⟩)
    go_ret
    exact ⟨rfl, (hb1.trans (hb2.mono hb1.size)).trans (Below.mono (by assumption) (Nat.le_trans hb1.size hb2.size))⟩
  · have hp : (0 : Int) < (n : Int) := by omega
    have hLe := HL2.out (by omega)
    have HLe := Lib.hid hLe
    clear hLe
    by_cases h8 : ((n : Int) - 1) % 8 = 0
    · have hq : ((L : Int) == ((n : Int) - 1) / 8 + 1) = true := by have := HLe.out; simp; omega
      have h8' : ¬ (0 : Int) < ((n : Int) - 1) % 8 := by omega
      go_wp2_with (go_at_call 20; refine (Md.middle_any _).mono ?_; rintro e w3 ⟨rfl, hb3⟩)
      go_ret
      exact ⟨rfl, (hb1.trans (hb2.mono hb1.size)).trans (Below.mono (by assumption) (Nat.le_trans hb1.size hb2.size))⟩
    · have h8' : (0 : Int) < ((n : Int) - 1) % 8 := by omega
      have hq : ((L : Int) == ((n : Int) - 1) / 8 + 1 + 1) = true := by have := HLe.out; simp; omega
      go_wp2_with (go_at_call 20; refine (Md.middle_any _).mono ?_; rintro e w3 ⟨rfl, hb3⟩)
      go_ret
      exact ⟨rfl, (hb1.trans (hb2.mono hb1.size)).trans (Below.mono (by assumption) (Nat.le_trans hb1.size hb2.size))⟩
end Go.Proofs.Ytgfokkkkkeaheaa.midsMany
