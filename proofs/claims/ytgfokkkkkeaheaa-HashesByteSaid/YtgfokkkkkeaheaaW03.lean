/- The walks of the hashes: each function once, what it computes. -/
import Derived.Test.YtgfokkkkkeaheaaRows
import Derived.Test.YtgfokkkkkeaheaaPlain03
import Derived.WalkKit
import Derived.ProofKit
import Derived.Lib.Hide
namespace Go.Proofs.Ytgfokkkkkeaheaa
namespace Hs
open Go.ChangeShapes Go.WideShapes Go.ChangeAt Go.RowKit

theorem ret_int {k : IntKind} {a b : Int} (h : a = b) : Ending.returned (.int k a) = .returned (.int k b) := by rw [h]

theorem mix_any (h : BitVec 64) (w : World) :
    Calls Try.prog 35 #[.int .u64 (h.toNat : Int)] w fun e w' => e = .returned (.int .u64 ((mix h).toNat : Int)) ∧ w = w' := by
  have hb := u_lt h
  have e1 : bits .xor .u64 (h.toNat : Int) ((h.toNat : Int) / 4294967296) = ((h ^^^ (h >>> 32)).toNat : Int) := by
    have := bd h 32
    rw [← bx, ← this]; rfl
  have e2 : IntKind.u64.wrap (((h ^^^ (h >>> 32)).toNat : Int) * 11400714819323198485) = ((turn h).toNat : Int) := bm _ 11400714819323198485#64
  have e3 : bits .xor .u64 ((turn h).toNat : Int) (((turn h).toNat : Int) / 536870912) = ((mix h).toNat : Int) := by
    have := bd (turn h) 29
    unfold mix
    rw [← bx, ← this]; rfl
  have E1 := Lib.hid e1; have E2 := Lib.hid e2; have E3 := Lib.hid e3
  clear e1 e2 e3
  go_enter Try.func35, Try.ntmps35
  go_wp2
  go_ret
  exact ⟨ret_int (by rw [E1.out, E2.out, E3.out]), rfl⟩

theorem hash_any (n : Int) (s : ByteArray) (w : World) (h0 : 0 ≤ n) (h1 : n < 18446744073709551616) (hs : s.size ≤ maxLen) :
    Calls Try.prog 16 #[.int .u64 n, .string s] w fun e w' => e = .returned (.int .u64 ((hash (BitVec.ofInt 64 n) s.data.toList).toNat : Int)) ∧ w = w' := by
  unfold maxLen at hs
  obtain ⟨seed, hn⟩ := of_u n h0 h1
  have hbv : BitVec.ofInt 64 n = seed := by rw [hn]; simp
  rw [hbv]
  by_cases hz : seed = 0#64
  · subst hz
    obtain rfl : n = 0 := by rw [hn]; rfl
    clear hn hbv
    go_enter Try.func16, Try.ntmps16
    go_wp2
    go_ret
    exact ⟨ret_int (by unfold hash; simp), rfl⟩
  · subst hn
    have hne : ((seed.toNat : Int) == 0) = false := by
      simp
      intro hc
      exact hz (BitVec.eq_of_toNat_eq (by simpa using hc))
    have hx : bits .xor .u64 14695981039346656037 (seed.toNat : Int) = ((run (basis ^^^ seed) []).toNat : Int) := bx basis seed
    have HX := Lib.hid hx
    clear hx hbv
    go_enter Try.func16, Try.ntmps16
    go_wp2
    go_loop [5, 13] (fun h i => ∃ k : Nat, k ≤ s.size ∧ i = .int .i64 k ∧ h = .int .u64 ((run (basis ^^^ seed) (s.data.toList.take k)).toNat : Int)) (fun _ i => s.size - (intOf i).toNat)
    case atStart => exact ⟨0, Nat.zero_le _, rfl, by rw [HX.out]; rfl⟩
    case round =>
      obtain ⟨k, hk, rfl, rfl⟩ := hrel
      by_cases hlt : k < s.size
      · have hput : ∀ b : UInt8, IntKind.u64.wrap (bits .xor .u64 ((run (basis ^^^ seed) (s.data.toList.take k)).toNat : Int) (IntKind.u64.wrap (b.toNat : Int)) * 1099511628211) = ((put (run (basis ^^^ seed) (s.data.toList.take k)) b).toNat : Int) := by
          intro b
          have e1 : IntKind.u64.wrap (b.toNat : Int) = ((BitVec.ofNat 64 b.toNat).toNat : Int) := by
            have := b.toNat_lt
            rw [IntKind.wrap_u64, BitVec.toNat_ofNat]; omega
          rw [e1, bx]
          exact bm _ 1099511628211#64
        have HP := Lib.hid hput
        clear hput
        go_wp2
        go_round
        case rel =>
          refine ⟨k + 1, by omega, by go_num, ?_⟩
          rw [HP.out, List.take_succ_eq_append_getElem (by simpa using hlt), run_snoc]; rfl
        case measure => simp [intOf]; omega
      · go_wp2_with (go_at_call 35; refine (mix_any _ _).mono ?_; rintro e w' ⟨rfl, rfl⟩)
        go_ret
        refine ⟨ret_int ?_, rfl⟩
        unfold hash
        rw [if_neg hz, List.take_of_length_le (by simp; omega)]

theorem ref_hash (n : Int) (s : ByteArray) (w : World) (h0 : 0 ≤ n) (h1 : n < 18446744073709551616) (hs : s.size ≤ maxLen) :
    Calls Try.prog 17 #[.int .u64 n, .string s] w fun e w' => e = .returned (.int .u64 ((hash (BitVec.ofInt 64 n) s.data.toList).toNat : Int)) ∧ w = w' := by
  unfold maxLen at hs
  obtain ⟨seed, hn⟩ := of_u n h0 h1
  have hbv : BitVec.ofInt 64 n = seed := by rw [hn]; simp
  rw [hbv]
  by_cases hz : seed = 0#64
  · subst hz
    obtain rfl : n = 0 := by rw [hn]; rfl
    clear hn hbv
    go_enter Try.func17, Try.ntmps17
    go_wp2
    go_ret
    exact ⟨ret_int (by unfold hash; simp), rfl⟩
  · subst hn
    have hne : ((seed.toNat : Int) == 0) = false := by
      simp
      intro hc
      exact hz (BitVec.eq_of_toNat_eq (by simpa using hc))
    have hx : bits .xor .u64 14695981039346656037 (seed.toNat : Int) = ((run (basis ^^^ seed) []).toNat : Int) := bx basis seed
    have HX := Lib.hid hx
    clear hx hbv
    go_enter Try.func17, Try.ntmps17
    go_wp2
    go_loop [5, 6] (fun h i => ∃ k : Nat, k ≤ s.size ∧ i = .int .i64 k ∧ h = .int .u64 ((run (basis ^^^ seed) (s.data.toList.take k)).toNat : Int)) (fun _ i => s.size - (intOf i).toNat)
    case atStart => exact ⟨0, Nat.zero_le _, rfl, by rw [HX.out]; rfl⟩
    case round =>
      obtain ⟨k, hk, rfl, rfl⟩ := hrel
      by_cases hlt : k < s.size
      · have hput : ∀ b : UInt8, IntKind.u64.wrap (bits .xor .u64 ((run (basis ^^^ seed) (s.data.toList.take k)).toNat : Int) (IntKind.u64.wrap (b.toNat : Int)) * 1099511628211) = ((put (run (basis ^^^ seed) (s.data.toList.take k)) b).toNat : Int) := by
          intro b
          have e1 : IntKind.u64.wrap (b.toNat : Int) = ((BitVec.ofNat 64 b.toNat).toNat : Int) := by
            have := b.toNat_lt
            rw [IntKind.wrap_u64, BitVec.toNat_ofNat]; omega
          rw [e1, bx]
          exact bm _ 1099511628211#64
        have HP := Lib.hid hput
        clear hput
        go_wp2
        go_round
        case rel =>
          refine ⟨k + 1, by omega, by go_num, ?_⟩
          rw [HP.out, List.take_succ_eq_append_getElem (by simpa using hlt), run_snoc]; rfl
        case measure => simp [intOf]; omega
      · have hall : s.data.toList.take k = s.data.toList := List.take_of_length_le (by simp; omega)
        rw [hall]
        generalize hr : run (basis ^^^ seed) s.data.toList = r
        have Hr := Lib.hid hr
        have e1 : bits .xor .u64 (r.toNat : Int) ((r.toNat : Int) / 4294967296) = ((r ^^^ (r >>> 32)).toNat : Int) := by
          have := bd r 32
          rw [← bx, ← this]; rfl
        have e2 : IntKind.u64.wrap (((r ^^^ (r >>> 32)).toNat : Int) * 11400714819323198485) = ((turn r).toNat : Int) := bm _ 11400714819323198485#64
        have e3 : bits .xor .u64 ((turn r).toNat : Int) (IntKind.u64.wrap (((turn r).toNat : Int).tdiv 536870912)) = ((mix r).toNat : Int) := by
          have := bd (turn r) 29
          have ht := u_lt (turn r)
          rw [Int.tdiv_eq_ediv_of_nonneg ht.1, IntKind.wrap_u64]
          unfold mix
          rw [← bx, ← this, Int.emod_eq_of_lt (by omega) (by omega)]; rfl
        have hb := u_lt r
        have E1 := Lib.hid e1; have E2 := Lib.hid e2; have E3 := Lib.hid e3
        clear e1 e2 e3 hall hr
        go_wp2
        go_ret
        refine ⟨ret_int ?_, rfl⟩
        rw [E1.out, E2.out, E3.out]
        unfold hash
        rw [if_neg hz, Hr.out]

theorem step_any (n : Int) (w : World) (h0 : 0 ≤ n) (h1 : n < 18446744073709551616) :
    Calls Try.prog 18 #[.int .u64 n] w fun e w' => e = .returned (.int .u64 ((step (BitVec.ofInt 64 n)).toNat : Int)) ∧ w = w' := by
  obtain ⟨h, hn⟩ := of_u n h0 h1
  have hbv : BitVec.ofInt 64 n = h := by rw [hn]; simp
  rw [hbv]
  subst hn
  clear hbv
  have hm : bits .and .u64 (IntKind.u64.wrap (-17)) 63 = 47 := by decide
  have e1 : IntKind.u64.wrap ((h.toNat : Int) * 140737488355328) = ((h <<< 47).toNat : Int) := bl h 47
  have e2 : (h.toNat : Int) / (131072 : Int) = ((h >>> 17).toNat : Int) := by have := bd h 17; rw [← this]; rfl
  have E1 := Lib.hid e1; have E2 := Lib.hid e2
  clear e1 e2
  go_enter Try.func18, Try.ntmps18
  go_wp2
  go_ret
  refine ⟨ret_int ?_, rfl⟩
  rw [E1.out, E2.out, bo]
  exact bo _ 1#64

theorem ref_step (n : Int) (w : World) (h0 : 0 ≤ n) (h1 : n < 18446744073709551616) :
    Calls Try.prog 19 #[.int .u64 n] w fun e w' => e = .returned (.int .u64 ((step (BitVec.ofInt 64 n)).toNat : Int)) ∧ w = w' := by
  obtain ⟨h, hn⟩ := of_u n h0 h1
  have hbv : BitVec.ofInt 64 n = h := by rw [hn]; simp
  rw [hbv, step_nat]
  subst hn
  clear hbv
  go_enter Try.func19, Try.ntmps19
  go_wp2
  go_ret
  refine ⟨ret_int ?_, rfl⟩
  unfold stepN
  have hS : (h.toNat : Int) / 131072 + (h.toNat : Int) % 131072 * 140737488355328 = ((h.toNat / 131072 + h.toNat % 131072 * 140737488355328 : Nat) : Int) := by simp
  rw [hS]
  have hl := h.isLt
  have hle : h.toNat / 131072 + h.toNat % 131072 * 140737488355328 < 18446744073709551616 := by omega
  generalize h.toNat / 131072 + h.toNat % 131072 * 140737488355328 = S at hle
  rw [IntKind.wrap_u64, IntKind.wrap_u64]
  omega

/-! the chapter's examples -/
theorem hash_at (n : Int) (s : ByteArray) (r : BitVec 64) (w : World) (h0 : 0 ≤ n) (h1 : n < 18446744073709551616) (hs : s.size ≤ maxLen) (hr : hash (BitVec.ofInt 64 n) s.data.toList = r) :
    Calls Try.prog 16 #[.int .u64 n, .string s] w fun e w' => e = .returned (.int .u64 (r.toNat : Int)) ∧ w = w' := by
  subst hr
  exact hash_any n s w h0 h1 hs
theorem ex1 (w : World) : Calls Try.prog 16 #[.int .u64 0, .string ⟨#[97, 98, 99]⟩] w fun e w' => e = .returned (.int .u64 7) ∧ w = w' :=
  hash_at 0 ⟨#[97, 98, 99]⟩ 7#64 w (by decide) (by decide) (by decide) (by decide)
theorem ex2 (w : World) : Calls Try.prog 16 #[.int .u64 14695981039346656037, .string ⟨#[]⟩] w fun e w' => e = .returned (.int .u64 0) ∧ w = w' :=
  hash_at 14695981039346656037 ⟨#[]⟩ 0#64 w (by decide) (by decide) (by decide) (by decide)
theorem ex3 (w : World) : Calls Try.prog 16 #[.int .u64 14695981039346656037, .string ⟨#[0]⟩] w fun e w' => e = .returned (.int .u64 0) ∧ w = w' :=
  hash_at 14695981039346656037 ⟨#[0]⟩ 0#64 w (by decide) (by decide) (by decide) (by decide)
theorem step_at (n r : Int) (w : World) (h0 : 0 ≤ n) (h1 : n < 18446744073709551616) (hr : ((step (BitVec.ofInt 64 n)).toNat : Int) = r) :
    Calls Try.prog 18 #[.int .u64 n] w fun e w' => e = .returned (.int .u64 r) ∧ w = w' := by
  subst hr
  exact step_any n w h0 h1
theorem ex4 (w : World) : Calls Try.prog 18 #[.int .u64 0] w fun e w' => e = .returned (.int .u64 1) ∧ w = w' :=
  step_at 0 1 w (by decide) (by decide) (by decide)
theorem ex5 (w : World) : Calls Try.prog 18 #[.int .u64 262144] w fun e w' => e = .returned (.int .u64 3) ∧ w = w' :=
  step_at 262144 3 w (by decide) (by decide) (by decide)
theorem ex6 (w : World) : Calls Try.prog 18 #[.int .u64 1] w fun e w' => e = .returned (.int .u64 140737488355329) ∧ w = w' :=
  step_at 1 140737488355329 w (by decide) (by decide) (by decide)

theorem hashed_any (w : World) : Calls Try.prog 15 #[] w fun e w' => e = .returned (.bool true) ∧ w = w' := by
  go_enter Try.func15, Try.ntmps15
  go_wp2_with fail
  refine (ex1 _).mono ?_; rintro e w' ⟨rfl, rfl⟩
  go_wp2_with fail
  refine (ex2 _).mono ?_; rintro e w' ⟨rfl, rfl⟩
  go_wp2_with fail
  refine (ex3 _).mono ?_; rintro e w' ⟨rfl, rfl⟩
  go_wp2_with fail
  refine (ex4 _).mono ?_; rintro e w' ⟨rfl, rfl⟩
  go_wp2_with fail
  refine (ex5 _).mono ?_; rintro e w' ⟨rfl, rfl⟩
  go_wp2_with fail
  refine (ex6 _).mono ?_; rintro e w' ⟨rfl, rfl⟩
  go_wp2_with fail
  go_ret
  exact ⟨rfl, rfl⟩
end Hs
end Go.Proofs.Ytgfokkkkkeaheaa
