/-
  HashesStep: for every hash and every bit the law returns true, and its arguments read behind the call as before. No condition.
-/
import Derived.Test.YtgfokkkkkeaheaaRows
import Derived.WalkKit
import Derived.ProofKit
import Derived.OpenShut
import Derived.ShutString
import Derived.Test.YtgfokkkkkeaheaaW03
import Derived.Lib.Hide
namespace Go.Proofs.Ytgfokkkkkeaheaa.hashesStep
open Go.ChangeShapes Go.WideShapes Go.ChangeAt Go.RowKit
open Go.ChangeMaps (open_string shut_string)
set_option linter.unusedVariables false      -- a walk need not use every 'w<i>' (that an integer argument fits its kind)

theorem own : ownKnob Try.prog.godebug = none := by kernel_rfl

/-! ### STEP 1: THE WALK: the Go text returns true. 'Grown w w'': the world has at most new blocks (Derived/RowKit3.lean). Part the cases AHEAD of 'go_enter' where a test parts the walk; take each callee by a contract of your own. -/
theorem walk (a0 : Int) (a1 : Int) (w0 : (Lit.int .u64 a0).wf = true) (w1 : (Lit.int .u8 a1).wf = true) (w : World) :
    Calls Try.prog 6 #[.int .u64 a0, .int .u8 a1] w fun e w' => e = .returned (.bool true) ∧ Grown w w' := by
  have hw0 : 0 ≤ a0 ∧ a0 < 18446744073709551616 := by
    simp [Lit.wf, IntKind.min, IntKind.max, IntKind.signed, IntKind.bits] at w0
    omega
  have hw1 : 0 ≤ a1 ∧ a1 < 256 := by
    simp [Lit.wf, IntKind.min, IntKind.max, IntKind.signed, IntKind.bits] at w1
    omega
  obtain ⟨h0, h0'⟩ := hw0
  obtain ⟨h1, h1'⟩ := hw1
  clear w0 w1
  obtain ⟨h, hn⟩ := Hs.of_u a0 h0 h0'
  have hb : (a1 % 64).toNat < 64 := by omega
  have hX : bits .xor .u64 a0 (IntKind.u64.wrap (2 ^ (a1 % 64).toNat)) = ((h ^^^ (1#64 <<< (a1 % 64).toNat)).toNat : Int) := by
    have e : IntKind.u64.wrap (2 ^ (a1 % 64).toNat) = ((1#64 <<< (a1 % 64).toNat).toNat : Int) := by
      rw [← Hs.bl 1#64]
      simp
    rw [hn, e, Hs.bx]
  have hturn := Hs.step_turned h _ hb
  obtain ⟨s, hs⟩ : ∃ s : Int, ((Hs.step (BitVec.ofInt 64 a0)).toNat : Int) = s := ⟨_, rfl⟩
  have hX0 := Hs.u_lt (h ^^^ (1#64 <<< (a1 % 64).toNat))
  rw [← hX] at hX0
  obtain ⟨X, hX2⟩ : ∃ X : Int, bits .xor .u64 a0 (IntKind.u64.wrap (2 ^ (a1 % 64).toNat)) = X := ⟨_, rfl⟩
  obtain ⟨t, ht⟩ : ∃ t : Int, ((Hs.step (BitVec.ofInt 64 X)).toNat : Int) = t := ⟨_, rfl⟩
  have hs0 := Hs.u_lt (Hs.step (BitVec.ofInt 64 a0))
  have ht0 := Hs.u_lt (Hs.step (BitVec.ofInt 64 X))
  rw [hs] at hs0
  rw [ht] at ht0
  rw [hX2] at hX0
  have sodd : (s % 2 == 1) = true := by
    have := Hs.step_odd (BitVec.ofInt 64 a0)
    rw [BitVec.getLsbD, Nat.testBit_zero] at this
    simp at this
    simp
    omega
  have todd : (t % 2 == 1) = true := by
    have := Hs.step_odd (BitVec.ofInt 64 X)
    rw [BitVec.getLsbD, Nat.testBit_zero] at this
    simp at this
    simp
    omega
  have hlast : ((s != t) == (a1 % 64 != 17)) = true := by
    have e1 : BitVec.ofInt 64 a0 = h := by rw [hn]; simp
    have e2 : BitVec.ofInt 64 X = h ^^^ (1#64 <<< (a1 % 64).toNat) := by rw [← hX2, hX, BitVec.ofInt_natCast, BitVec.ofNat_toNat, BitVec.setWidth_eq]
    rw [e1] at hs
    rw [e2] at ht
    rw [beq_iff_eq, Bool.eq_iff_iff, bne_iff_ne, bne_iff_ne]
    have : s = t ↔ a1 % 64 = 17 := by
      rw [← hs, ← ht]
      constructor
      · intro hc
        have := hturn.1 (BitVec.eq_of_toNat_eq (by exact_mod_cast hc))
        omega
      · intro hc
        rw [hturn.2 (by omega), show (a1 % 64).toNat = 17 by omega]
    exact not_congr this
  have HS := Lib.hid hs; have HT := Lib.hid ht; have HX := Lib.hid hX2
  clear hs ht hX2 hturn hX hn hb
  go_enter Try.func6, Try.ntmps6
  go_wp2_with fail
  refine (Hs.step_at _ s _ h0 h0' HS.out).mono ?_; rintro e w' ⟨rfl, rfl⟩
  go_wp2_with fail
  rw [HX.out]
  refine (Hs.step_at _ t _ hX0.1 hX0.2 HT.out).mono ?_; rintro e w' ⟨rfl, rfl⟩
  go_wp2_with fail
  refine (Hs.hashed_any _).mono ?_; rintro e w' ⟨rfl, rfl⟩
  go_wp2_with fail
  go_ret
  exact ⟨rfl, Grown.refl _⟩

/-! ### THE ROW's STEP: WRITTEN OUT: LEAVE IT -/
set_option maxRecDepth 100000 in
theorem lifted (os : Os) (started : os.Started) (H : Type) (enc : TypeId × Value → H) :
    ReturnsInHanded {} Try.checked os 6 .any (Rows.hashesStepSpec.pre6 enc Try.prog Try.f6 Rows.hashesStepRow.domain false) (Rows.hashesStepSpec.post enc Try.prog Try.f6 false true false false) := by
  refine returnsInHanded_of_change (C := Try.checked) own started (by kernel_rfl) Try.func6
    (ChangeSpec.witness6 (enc := enc) (C := Try.checked) false ⟨#[], #[.int .u64 0, .int .u8 0], []⟩ 8 (by kernel_rfl) (by kernel_rfl) (by kernel_rfl) (by kernel_rfl)) ?_
  intro W base args ds gs before hval0 hW hcnd _
  have hval : ∀ (j : Nat) t v, Try.f6.params[j]? = some t → args[j]? = some v → Value.okWide Try.prog W .any base t v := hval0
  have hW' := hW
  obtain ⟨p, q, hA0, hV, rfl, hfz, hnd⟩ := hW
  have hA : DataW.TrodAll enc Try.prog W 0 (fun _ => true) true Try.f6.params.toList args.toList ds p := hA0
  rw [Try.params6] at hA hval
  obtain ⟨v0, vs0, d0, ds0, p0, q0, hargs, rfl, rfl, h0, r0⟩ := trodAll_cons hA
  obtain ⟨v1, vs1, d1, ds1, p1, q1, rfl, rfl, rfl, h1, r1⟩ := trodAll_cons r0
  obtain ⟨rfl, rfl, rfl⟩ := trodAll_nil r1
  obtain rfl : args = #[v0, v1] := by cases args; simp_all
  obtain ⟨rfl, rfl⟩ := trodVars_none hV
  obtain ⟨a0, rfl, rfl, rfl, w0⟩ := open_int Try.underlying22 (hval 0 22 v0 rfl rfl) h0
  obtain ⟨a1, rfl, rfl, rfl, w1⟩ := open_int Try.underlying5 (hval 1 5 v1 rfl rfl) h1
  clear hA0 hval0
  simp only [List.append_nil] at hW'
  refine (walk a0 a1 w0 w1 W).mono fun e W' ⟨he, hg⟩ => ?_
  subst he
  exact ⟨_, rfl, post_of_same (pa := []) (pv := []) hW' (fun _ _ _ => (trodAll_cons_mk (shut_bool Try.underlying4 _) trodAll_mk0)) (fun sp _ => (trodAll_cons_mk (shut_int Try.underlying22 w0) (trodAll_cons_mk (shut_int Try.underlying5 w1) trodAll_mk0))) (fun _ _ => rfl) rfl
    (hg.frame _) hg.2.1 (ok_one (by kernel_rfl) rfl (okWide_bool_mk Try.underlying4 _))⟩

theorem over : Rows.hashesStepRow.holds Try.pinned (OpenSpec.ofChange Rows.hashesStepSpec) :=
  OpenClaim.holds_of_wide 6 Try.f6 rfl rfl rfl rfl rfl rfl rfl ⟨rfl, rfl, rfl, rfl, rfl⟩ rfl rfl rfl rfl rfl (by kernel_rfl) Try.func6 (by kernel_rfl)
    (of_decide_eq_true (by kernel_rfl)) (by unfold Func.isWrapper; first | (rw [if_pos (by decide +kernel)]; kernel_rfl) | (rw [if_neg (by decide +kernel)]; exact ⟨rfl, rfl⟩))
    (fun os started H enc _ => lifted os started H enc)

/-- ████ THE STATEMENT ████ -/
theorem proved : Rows.HashesStepSaid :=
  over
#print axioms proved
end Go.Proofs.Ytgfokkkkkeaheaa.hashesStep
