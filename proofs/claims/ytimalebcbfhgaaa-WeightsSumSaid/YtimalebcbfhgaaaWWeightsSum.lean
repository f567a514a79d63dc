/- The walk of WeightsSum. -/
import Derived.Test.YtimalebcbfhgaaaW04f
import Derived.Test.YtimalebcbfhgaaaOpen04
import Derived.Test.YtimalebcbfhgaaaPlainS
import Derived.Deep.DeepCutAuto
namespace Go.Proofs.Ytimalebcbfhgaaa
open Go.RowKit Fl Wt
namespace weightsSum
theorem uT_hT {f : Nat} (h : uT f = true) : hT f = true := by
  obtain ⟨n, r1, r2⟩ := uT_inf h
  unfold hT
  rw [gt_is n (by decide), decide_eq_true_eq]
  have h2 : key 9094988921128908188 = 9094988921128908188 := by decide
  have hI : I = 9218868437227405312 := rfl
  unfold key at h2 ⊢
  rw [r2]
  simp only [Bool.false_eq_true, if_false] at h2 ⊢
  omega
theorem dT_lT {f : Nat} (h : dT f = true) : lT f = true := by
  obtain ⟨n, r1, r2⟩ := dT_inf h
  unfold lT
  rw [lt_is n (by decide), decide_eq_true_eq]
  have h2 : key 18318360957983683996 = -9094988921128908188 := by decide
  have hI : I = 9218868437227405312 := rfl
  rw [h2]
  unfold key
  rw [r2]
  simp only [if_true]
  omega
set_option maxHeartbeats 4000000 in
theorem walk (l : List Nat) (v : Value) (w : World) (h : Slc w w.heap.size 1 v l.length (u64s l)) (hl : ∀ x ∈ l, x < 2 * S) :
    Calls Try.prog 5 #[v] w fun e w' => e = .returned (.bool true) ∧ Below w.heap.size w w' := by
  have H0 := Lib.hid h
  have HL := Lib.hid hl
  obtain ⟨hlen, A, c, rfl, hcells⟩ := h
  have HC := Lib.hid hcells
  clear hcells hlen hl
  by_cases hbig : 100 < l.length
  · go_enter Try.func5, Try.ntmps5
    go_wp2_with fail
    refine (weighed_any _).mono ?_; rintro e w3 ⟨rfl, hb3⟩
    go_wp2_with fail
    go_ret
    exact ⟨rfl, hb3⟩
  · go_enter Try.func5, Try.ntmps5
    go_wp2_with fail
    go_loopw [3, 4, 5, 6, 7] (fun n u d g i wr => ∃ k : Nat, k ≤ l.length ∧ i = .int .i64 k ∧ n = .bool ((l.take k).any nan) ∧ u = .bool ((l.take k).any uT) ∧ d = .bool ((l.take k).any dT) ∧ g = .bool ((l.take k).any fun f => hT f || lT f) ∧ w = wr) (fun _ _ _ _ i _ => l.length - (intOf i).toNat)
    case atStart => exact ⟨0, Nat.zero_le _, rfl, rfl, rfl, rfl, rfl, rfl⟩
    case round =>
      obtain ⟨k, hk, rfl, rfl, rfl, rfl, rfl, rfl⟩ := hrel
      by_cases hlt : k < l.length
      · obtain ⟨b0, off0, rfl, hlt0, hcell0⟩ := HC.out (by omega)
        have ck0 : w.cell? ⟨b0, off0 + k, none⟩ = some (.int .u64 (l[k] : Int)) := hcell0 k _ (u64s_get hlt)
        have A1 := Lib.hid (any_snoc nan hlt)
        have A2 := Lib.hid (any_snoc uT hlt)
        have A3 := Lib.hid (any_snoc dT hlt)
        have A4 := Lib.hid (any_snoc (fun f => hT f || lT f) hlt)
        have hfb := frombits (l[k] : Int)
        rw [Int.toNat_natCast] at hfb
        have t1 : (FloatKind.f64.format.order l[k] l[k] != some .eq) = nan l[k] := neq_self l[k]
        have t2 : (FloatKind.f64.format.order l[k] 9218868437227405311 == some .gt) = uT l[k] := rfl
        have t3 : (FloatKind.f64.format.order l[k] 18442240474082181119 == some .lt) = dT l[k] := rfl
        have t4 : (FloatKind.f64.format.order l[k] 9094988921128908188 == some .gt) = hT l[k] := rfl
        have t5 : (FloatKind.f64.format.order l[k] 18318360957983683996 == some .lt) = lT l[k] := rfl
        generalize nan l[k] = b1 at t1 A1
        generalize uT l[k] = b2 at t2 A2
        generalize dT l[k] = b3 at t3 A3
        generalize hT l[k] = b4 at t4 A4
        generalize lT l[k] = b5 at t5 A4
        generalize l[k] = f at ck0 hfb t1 t2 t3 t4 t5
        generalize (l.take k).any nan = s1 at A1 ⊢
        generalize (l.take k).any uT = s2 at A2 ⊢
        generalize (l.take k).any dT = s3 at A3 ⊢
        generalize ((l.take k).any fun f => hT f || lT f) = s4 at A4 ⊢
        clear hcell0 HC
        go_upto_region 8 with fail
        clear ck0 hfb
        go_cut [3] (fun r wx => r = .bool (s1 || b1) ∧ w = wx)
        case first => cases s1 <;> (go_wp2_with fail; go_meet; exact ⟨rfl, rfl⟩)
        case rest =>
          obtain ⟨rfl, rfl⟩ := hcut
          clear t1
          go_upto_region 9 with fail
          go_cut [4] (fun r wx => r = .bool (s2 || b2) ∧ w = wx)
          case first => cases s2 <;> (go_wp2_with fail; go_meet; exact ⟨rfl, rfl⟩)
          case rest =>
            obtain ⟨rfl, rfl⟩ := hcut
            clear t2
            go_upto_region 10 with fail
            go_cut [5] (fun r wx => r = .bool (s3 || b3) ∧ w = wx)
            case first => cases s3 <;> (go_wp2_with fail; go_meet; exact ⟨rfl, rfl⟩)
            case rest =>
              obtain ⟨rfl, rfl⟩ := hcut
              clear t3
              have A4' := A4.out
              cases s4 <;> cases b4
              all_goals
                have A5 := Lib.hid A4'
                clear A4' A4
                go_wp2_with fail
                go_roundw
                case rel => exact ⟨k + 1, by omega, by go_num, by rw [A1.out], by rw [A2.out], by rw [A3.out], by rw [A5.out]; rfl, trivial⟩
                case measure => simp [intOf]; omega
      · obtain rfl : k = l.length := by omega
        rw [List.take_length]
        go_wp2_with fail
        refine (floats_any l _ w H0.out (by omega)).mono ?_
        rintro e w1 ⟨v1, rfl, hown1, hb1⟩
        have HS1 := Lib.hid (Slc.of_own hown1)
        clear hown1
        go_wp2_with fail
        refine (sum_any l v1 w1 HS1.out (by omega)).mono ?_
        rintro e w2 ⟨s, rfl, hs, hb2⟩
        obtain ⟨q1, q2, q3, q4⟩ := sum_tests hs (by omega)
        have hb02 := hb1.trans (hb2.mono hb1.size)
        have t1 : (FloatKind.f64.format.order s s != some .eq) = nan s := neq_self s
        have t1' : (FloatKind.f64.format.order s s == some .eq) = !nan s := by rw [← t1]; unfold bne; rw [Bool.not_not]
        have t2 : (FloatKind.f64.format.order s 9218868437227405311 == some .gt) = uT s := rfl
        have t3 : (FloatKind.f64.format.order s 18442240474082181119 == some .lt) = dT s := rfl
        have hug : l.any uT = true → (l.any fun f => hT f || lT f) = true := by
          intro h
          obtain ⟨f, hf, hu⟩ := List.any_eq_true.1 h
          exact List.any_eq_true.2 ⟨f, hf, by rw [uT_hT hu]; rfl⟩
        have hdg : l.any dT = true → (l.any fun f => hT f || lT f) = true := by
          intro h
          obtain ⟨f, hf, hu⟩ := List.any_eq_true.1 h
          exact List.any_eq_true.2 ⟨f, hf, by rw [dT_lT hu]; simp⟩
        generalize uT s = bu at t2 q3
        generalize dT s = bd at t3 q4
        generalize nan s = bn at t1 t1' q1 q2 q3 q4
        generalize l.any nan = s1 at q1 q2 ⊢
        generalize l.any uT = s2 at q1 q3 hug ⊢
        generalize l.any dT = s3 at q1 q4 hdg ⊢
        generalize (l.any fun f => hT f || lT f) = s4 at q2 hug hdg ⊢
        clear hs HS1 hb1 hb2 H0 HL HC
        cases s1
        · cases s2
          · cases s3
            · clear q1 q3 q4 hug hdg t2 t3
              cases s4
              · obtain ⟨rfl, r2, r3⟩ := q2 rfl rfl
                clear q2
                go_wp2_with fail
                refine (weighed_any _).mono ?_; rintro e w3 ⟨rfl, hb3⟩
                go_wp2_with fail
                go_ret
                exact ⟨rfl, hb02.trans (hb3.mono hb02.size)⟩
              · clear q2
                go_wp2_with fail
                refine (weighed_any _).mono ?_; rintro e w3 ⟨rfl, hb3⟩
                go_wp2_with fail
                go_ret
                exact ⟨rfl, hb02.trans (hb3.mono hb02.size)⟩
            · obtain rfl := hdg rfl
              have q4' := q4 rfl
              clear q1 q2 q3 q4 hug hdg
              cases bn
              · obtain rfl := q4' rfl
                clear q4'
                go_wp2_with fail
                refine (weighed_any _).mono ?_; rintro e w3 ⟨rfl, hb3⟩
                go_wp2_with fail
                go_ret
                exact ⟨rfl, hb02.trans (hb3.mono hb02.size)⟩
              · clear q4'
                go_wp2_with fail
                refine (weighed_any _).mono ?_; rintro e w3 ⟨rfl, hb3⟩
                go_wp2_with fail
                go_ret
                exact ⟨rfl, hb02.trans (hb3.mono hb02.size)⟩
          · obtain rfl := hug rfl
            have q3' := q3 rfl
            cases s3
            · clear q1 q2 q3 q4 hug hdg
              cases bn
              · obtain rfl := q3' rfl
                clear q3'
                go_wp2_with fail
                refine (weighed_any _).mono ?_; rintro e w3 ⟨rfl, hb3⟩
                go_wp2_with fail
                go_ret
                exact ⟨rfl, hb02.trans (hb3.mono hb02.size)⟩
              · clear q3'
                go_wp2_with fail
                refine (weighed_any _).mono ?_; rintro e w3 ⟨rfl, hb3⟩
                go_wp2_with fail
                go_ret
                exact ⟨rfl, hb02.trans (hb3.mono hb02.size)⟩
            · obtain rfl := q1 (Or.inr ⟨rfl, rfl⟩)
              clear q1 q2 q3 q4 hug hdg q3'
              go_wp2_with fail
              refine (weighed_any _).mono ?_; rintro e w3 ⟨rfl, hb3⟩
              go_wp2_with fail
              go_ret
              exact ⟨rfl, hb02.trans (hb3.mono hb02.size)⟩
        · obtain rfl := q1 (Or.inl rfl)
          clear q1 q2 q3 q4 hug hdg
          cases s2 <;> cases s3
          all_goals
            go_wp2_with fail
            refine (weighed_any _).mono ?_; rintro e w3 ⟨rfl, hb3⟩
            go_wp2_with fail
            go_ret
            exact ⟨rfl, hb02.trans (hb3.mono hb02.size)⟩
end weightsSum
end Go.Proofs.Ytimalebcbfhgaaa
