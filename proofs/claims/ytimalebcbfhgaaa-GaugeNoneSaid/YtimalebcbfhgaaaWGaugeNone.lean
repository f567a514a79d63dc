/- The walk of GaugeNone. -/
import Derived.Test.YtimalebcbfhgaaaW28e
import Derived.Test.YtimalebcbfhgaaaOpenCap
import Derived.Test.YtimalebcbfhgaaaPlainG
import Derived.Test.YtimalebcbfhgaaaAppSlc
import Derived.Deep.RegionHeld3
import Derived.Deep.DeepCutAuto
namespace Go.Proofs.Ytimalebcbfhgaaa
open Go.RowKit Fl Wt
namespace gaugeNone
attribute [local go_sem] run_store_number
theorem info31 : (Try.prog.info? 31).map (fun i => (i.zero, i.size, i.bytes)) = some (some (.int .u64 0), 1, 8) := by kernel_rfl
theorem u64s_append (a b : List Nat) : u64s (a ++ b) = u64s a ++ u64s b := by unfold u64s; rw [List.map_append]
theorem u64s_one (l : List Nat) : ∀ u ∈ u64s l, u.oneCell' = true := by
  intro u hu
  obtain ⟨x, _, rfl⟩ := List.mem_map.1 hu
  rfl
theorem blk_new (w : World) (t : TypeId) (cs : Array Value) (g : Nat) (h : w.heap.size = g) : Blk (w.alloc (.cells cs t)) g t cs := by subst h; exact Blk.made _ _ _
theorem slc_zero (w : World) (B : Nat) (A : Option Addr) (c : Nat) : Slc w B 1 (.slice A 0 c) 0 (u64s []) := ⟨by simp [u64s], _, _, rfl, fun h => absurd h (by omega)⟩
theorem drop1 {w : World} {B b off len c : Nat} {l : List Nat} (hc : ∀ j u, (u64s l)[j]? = some u → w.cell? ⟨b, off + j, none⟩ = some u) (hb : b < B) (hl : l.length = len) (k : Nat) :
    Slc w B 1 (.slice (some ⟨b, off + k, none⟩) (len - k) c) (l.drop k).length (u64s (l.drop k)) := by
  refine ⟨by rw [u64s_len, Nat.mul_one], _, _, by rw [List.length_drop, hl], fun _ => ⟨_, _, rfl, hb, fun j u hj => ?_⟩⟩
  rw [Nat.add_assoc]
  refine hc (k + j) u ?_
  rw [← hj]
  unfold u64s
  rw [List.map_drop, List.getElem?_drop]
theorem take1 {w : World} {B b off c : Nat} {l : List Nat} (hc : ∀ j u, (u64s l)[j]? = some u → w.cell? ⟨b, off + j, none⟩ = some u) (hb : b < B) (k : Nat) (hk : k ≤ l.length) :
    Slc w B 1 (.slice (some ⟨b, off, none⟩) k c) (l.take k).length (u64s (l.take k)) := by
  refine ⟨by rw [u64s_len, Nat.mul_one], _, _, by rw [List.length_take, Nat.min_eq_left hk], fun _ => ⟨_, _, rfl, hb, fun j u hj => ?_⟩⟩
  refine hc j u ?_
  have hjl : j < (l.take k).length := by
    have := (List.getElem?_eq_some_iff.1 hj).1
    rwa [u64s_len] at this
  rw [← hj]
  unfold u64s
  rw [List.map_take, List.getElem?_take, if_pos (by rw [List.length_take] at hjl; omega)]
theorem size31 (W : World) : (sizeOf (Try.prog.elem 22)).run Try.prog W = .ok 1 W := by kernel_rfl
theorem elem22 : Try.prog.underlying 22 = some (.slice (Try.prog.elem 22)) := by kernel_rfl
theorem cuts {w : World} {B c k : Nat} {A : Option Addr} {l : List Nat} (h : Slc w B 1 (.slice A l.length c) l.length (u64s l)) (hc : l.length ≤ c) (hk : k ≤ l.length) :
    ∃ T D, (∀ W, (Instr.sliceAt 22 (.slice A l.length c) none (some (.int .i64 (k : Int))) none).run Try.prog W = .ok T W) ∧ (∀ W, (Instr.sliceAt 22 (.slice A l.length c) (some (.int .i64 (k : Int))) none none).run Try.prog W = .ok D W) ∧
      Slc w B 1 T (l.take k).length (u64s (l.take k)) ∧ Slc w B 1 D (l.drop k).length (u64s (l.drop k)) := by
  refine ⟨sliced A 0 k c 1, sliced A k l.length c 1, fun W => ?_, fun W => ?_, ?_, ?_⟩
  · rw [run_sliceAt_slice W 22 _ _ _ _ elem22, run_slice_h W 22 A l.length c elem22 .i64 k (by omega) (by omega), size31]
    simp [Result.andThen]
  · rw [run_sliceAt_slice W 22 _ _ _ _ elem22, run_slice_l W 22 A l.length c elem22 .i64 k (by omega) (by omega), size31]
    simp [Result.andThen]
  · obtain ⟨_, A', c', e, hcell⟩ := h
    injection e with e1 _ e2
    subst e1 e2
    rcases Nat.eq_zero_or_pos k with h0 | h0
    · subst h0
      exact slc_zero _ _ _ _
    · obtain ⟨b, off, rfl, hb, hcl⟩ := hcell (by omega)
      have e : sliced (some ⟨b, off, none⟩) 0 k c 1 = .slice (some ⟨b, off, none⟩) k c := by
        unfold sliced
        rw [if_neg (by omega), Option.map_some, add_none]
        rfl
      rw [e]
      exact take1 hcl hb k hk
  · obtain ⟨_, A', c', e, hcell⟩ := h
    injection e with e1 _ e2
    subst e1 e2
    rcases Nat.lt_or_ge k l.length with h0 | h0
    · obtain ⟨b, off, rfl, hb, hcl⟩ := hcell (by omega)
      have e : sliced (some ⟨b, off, none⟩) k l.length c 1 = .slice (some ⟨b, off + k, none⟩) (l.length - k) (c - k) := by
        unfold sliced
        rw [if_neg (by omega), Option.map_some, add_none, Nat.mul_one]
      rw [e]
      exact drop1 hcl hb rfl k
    · obtain rfl : k = l.length := by omega
      have e : l.drop l.length = [] := List.drop_length
      rw [e]
      unfold sliced
      rw [Nat.sub_self]
      exact slc_zero _ _ _ _
theorem new_one (w : World) (X : Int) (c : Nat) : Slc (w.alloc (.cells #[.int .u64 X] 31)) (w.heap.size + 1) 1 (.slice (some ⟨w.heap.size, 0, none⟩) 1 c) 1 [.int .u64 X] := Slc.made w 31 (xs := [.int .u64 X]) (by rfl)
theorem below_drew2 {w : World} (B : Nat) : Below B w w.drew := (Below.refl _ _).drew
theorem one_one (X : Int) : ∀ u ∈ [Value.int .u64 X], u.oneCell' = true := by
  intro u hu
  simp at hu
  subst hu
  rfl
theorem sumB_of {l : List Nat} {x y : Nat} (hx : IsSum l x) (hy : IsSum l y) : sumB x y = true := by
  unfold sumB
  cases h : fsum l with
  | some c => rw [hx.at_some h, hy.at_some h]; unfold sameB; simp
  | none => rw [hx.at_none h, hy.at_none h]; simp
/-- the list with one that is no number put in -/
def Put (l M : List Nat) : Prop := M.length = l.length + 1 ∧ (M.filter fun x => !nan x) = (l.filter fun x => !nan x) ∧ M.countP nan = l.countP nan + 1 ∧ (∀ x ∈ M, x ∈ l ∨ x < 2 * S)
def ins (l : List Nat) (k n : Nat) : List Nat := l.take k ++ [9218868437227405313 + n] ++ l.drop k
theorem put_mk {l : List Nat} {k n : Nat} {X : Int} (_ : 9218868437227405312 + (n : Int) + 1 = X) (ha : 0 ≤ (n : Int) ∧ (n : Int) < 256) (hk : k ≤ l.length) : Put l (ins l k n) := by
  have hnan : nan (9218868437227405313 + n) = true := by
    unfold nan rung
    rw [decide_eq_true_eq]
    have hI : I = 9218868437227405312 := rfl
    have hS : S = 9223372036854775808 := rfl
    rw [hI, hS]
    omega
  have hl : l.take k ++ l.drop k = l := List.take_append_drop k l
  have e1 : ∀ p : Nat → Bool, (l.take k).filter p ++ (l.drop k).filter p = l.filter p := fun p => by rw [← List.filter_append, hl]
  have e2 : ∀ p : Nat → Bool, (l.take k).countP p + (l.drop k).countP p = l.countP p := fun p => by rw [← List.countP_append, hl]
  unfold ins
  refine ⟨?_, ?_, ?_, ?_⟩
  · rw [List.length_append, List.length_append, List.length_take, List.length_drop, List.length_singleton]; omega
  · rw [List.filter_append, List.filter_append]
    have : ([9218868437227405313 + n] : List Nat).filter (fun x => !nan x) = [] := by simp [hnan]
    rw [this, List.append_nil, e1]
  · rw [List.countP_append, List.countP_append]
    have : ([9218868437227405313 + n] : List Nat).countP nan = 1 := by simp [hnan]
    rw [this]
    have := e2 nan
    omega
  · intro x hx
    rw [List.mem_append, List.mem_append] at hx
    rcases hx with (hx | hx) | hx
    · exact Or.inl (List.mem_of_mem_take hx)
    · right
      simp at hx
      unfold S
      omega
    · exact Or.inl (List.mem_of_mem_drop hx)
theorem putin {w : World} {B : Nat} {v : Value} {l : List Nat} {k n : Nat} {X : Int} (h : w.ownsRow B 31 1 v ((l.take k).length + 1 + (l.drop k).length) (u64s (l.take k) ++ [.int .u64 X] ++ u64s (l.drop k))) (hX : X = ((9218868437227405313 + n : Nat) : Int)) :
    Slc w w.heap.size 1 v (ins l k n).length (u64s (ins l k n)) := by
  have e : u64s (ins l k n) = u64s (l.take k) ++ [.int .u64 X] ++ u64s (l.drop k) := by
    unfold ins
    rw [u64s_append, u64s_append, hX]
    rfl
  have e2 : (ins l k n).length = (l.take k).length + 1 + (l.drop k).length := by
    unfold ins
    rw [List.length_append, List.length_append, List.length_singleton]
  rw [e, e2]
  exact Slc.of_own h
set_option maxHeartbeats 4000000 in
theorem walk (l : List Nat) (v : Value) (a1 : Int) (w : World) (h : Slc w w.heap.size 1 v l.length (u64s l)) (hl : ∀ x ∈ l, x < 2 * S) (hcap : ∃ A c, v = .slice A l.length c ∧ l.length ≤ c ∧ c ≤ maxLen) (w1 : (Lit.int .u8 a1).wf = true) :
    Calls Try.prog 12 #[v, .int .u8 a1] w fun e w' => e = .returned (.bool true) ∧ Below w.heap.size w w' := by
  have H0 := Lib.hid h
  have HL := Lib.hid hl
  have ha := u8_of w1
  obtain ⟨i31, hi, hz0, hz1, hz2⟩ := info_parts info31
  obtain ⟨A', c', e', hc1, hc2⟩ := hcap
  obtain ⟨_, A, c, rfl, hcells⟩ := h
  injection e' with ea _ ec
  subst ea ec
  have HC := Lib.hid hcells
  unfold maxLen at hc2
  clear hcells hl w1
  obtain ⟨n, hn⟩ : ∃ n : Nat, n = a1.toNat := ⟨_, rfl⟩
  obtain rfl : a1 = (n : Int) := by omega
  clear hn
  by_cases hbig : 60 < l.length
  · go_enter Try.func12, Try.ntmps12
    go_wp2_with fail
    refine (gauged_any _).mono ?_; rintro e w3 ⟨rfl, hb3⟩
    go_wp2_with fail
    go_ret
    exact ⟨rfl, hb3⟩
  obtain ⟨k, hk⟩ : ∃ k : Nat, k = n % (l.length + 1) := ⟨_, rfl⟩
  have hkl : k ≤ l.length := by have : k < l.length + 1 := by rw [hk]; exact Nat.mod_lt _ (by omega)
                                omega
  have hrem : ((n : Int) % ((l.length : Int) + 1)) = (k : Int) := by rw [hk, Int.natCast_emod, Int.natCast_add]; rfl
  have HREM := Lib.hid hrem
  clear hk hrem
  obtain ⟨T, D, hT, hD, sT, sD⟩ := cuts H0.out hc1 hkl
  have ST := Lib.hid sT
  have SD := Lib.hid sD
  clear sT sD
  go_enter Try.func12, Try.ntmps12
  go_wp2_with fail
  rw [HREM.out]
  have LT : Hid ((l.take k).length ≤ 60) := by show (l.take k).length ≤ 60; rw [List.length_take]; omega
  have LD : Hid ((l.drop k).length ≤ 60) := by show (l.drop k).length ≤ 60; rw [List.length_drop]; omega
  have k1 : (0 : Int) ≤ (k : Int) := by omega
  obtain ⟨X, hX⟩ : ∃ X : Int, 9218868437227405312 + (n : Int) + 1 = X := ⟨_, rfl⟩
  have wr0 : IntKind.u64.wrap (n : Int) = (n : Int) := by rw [IntKind.wrap_u64]; omega
  have wr1 : IntKind.u64.wrap (9218868437227405312 + (n : Int)) = 9218868437227405312 + (n : Int) := by rw [IntKind.wrap_u64]; omega
  have wr2 : IntKind.u64.wrap (9218868437227405312 + (n : Int) + 1) = X := by rw [IntKind.wrap_u64]; omega
  have HXX := Lib.hid hX
  have hX0 : Hid (X = ((9218868437227405313 + n : Nat) : Int)) := by show X = _; omega
  clear hX
  have SOF : Hid (∀ V : World, Below w.heap.size w V → Below w.heap.size w V ∧ (∀ b o, b < w.heap.size → V.cell? ⟨b, o, none⟩ = w.cell? ⟨b, o, none⟩)) :=
    fun V h => ⟨h, fun b o hb => h.cell (p := ⟨b, o, none⟩) hb⟩
  go_cut [6] (fun r wz => ∃ M : List Nat, Slc wz wz.heap.size 1 r M.length (u64s M) ∧ Put l M ∧ Below w.heap.size w wz)
  case first =>
    go_region_held3 (fun V => Below w.heap.size w V ∧ (∀ b o, b < w.heap.size → V.cell? ⟨b, o, none⟩ = w.cell? ⟨b, o, none⟩))
      (first
        | exact SOF.out _ (by go_grown)
        | exact SOF.out _ (by assumption))
      (first
        | (have hcur := And.left ‹Below w.heap.size w _ ∧ (∀ b o, b < w.heap.size → World.cell? _ ⟨b, o, none⟩ = w.cell? ⟨b, o, none⟩)›; refine step_append_slc _ (by rfl) (.const (.slice none 0 0)) (.tmp 21) 22 (by rfl) w.heap.size 31 i31 _ 1 8 Try.underlying22 hi hz0 hz1 hz2 rfl (by omega) (.slice none 0 0) 0 [] (by rfl) (World.ownsRow_nil _ _ _ _) _ _ (l.take k).length (u64s (l.take k)) (by rfl) (ST.out.below hcur) (u64s_one _) (by have h1 := LT.out; unfold maxLen; omega) (by have h1 := LT.out; omega) hcur.size ?_; intro v1 w1 own1 grow1 _; rw [Nat.zero_add, List.nil_append] at own1; have hstep1 := (Below.refl _ _).grown grow1 (Nat.le_refl _) (fun k hk => by cases hk); have hnow : Below w.heap.size w w1 := hcur.grown grow1 hcur.size (fun k hk => by cases hk); have hsz1 := hnow.size)
        | (have hcur := And.left ‹Below w.heap.size w _ ∧ (∀ b o, b < w.heap.size → World.cell? _ ⟨b, o, none⟩ = w.cell? ⟨b, o, none⟩)›; refine step_append_slc _ (by rfl) (.tmp 22) (.tmp 27) 22 (by rfl) w.heap.size 31 i31 _ 1 8 Try.underlying22 hi hz0 hz1 hz2 rfl (by omega) _ (l.take k).length (u64s (l.take k)) (by rfl) (by first | exact own1 | exact own1.alloc _) _ _ 1 [.int .u64 X] (by rfl) (by first | exact new_one w1 _ _ | exact Slc.below (new_one w _ _) ((below_drew2 _).trans (Below.mono hstep1 (by simp)))) (one_one _) (by have h1 := LT.out; unfold maxLen; omega) (by have h1 := LT.out; omega) hcur.size ?_; intro v2 w2 own2 grow2 _; have hnow : Below w.heap.size w w2 := hcur.grown grow2 hcur.size (fun k hk => (own1.lt k hk).1))
        | (have hcur := And.left ‹Below w.heap.size w _ ∧ (∀ b o, b < w.heap.size → World.cell? _ ⟨b, o, none⟩ = w.cell? ⟨b, o, none⟩)›; refine step_append_slc _ (by rfl) (.tmp 28) (.tmp 31) 22 (by rfl) w.heap.size 31 i31 _ 1 8 Try.underlying22 hi hz0 hz1 hz2 rfl (by omega) _ ((l.take k).length + 1) (u64s (l.take k) ++ [.int .u64 X]) (by rfl) own2 _ _ (l.drop k).length (u64s (l.drop k)) (by rfl) (SD.out.below hcur) (u64s_one _) (by have h1 := LT.out; have h2 := LD.out; unfold maxLen; omega) (by have h1 := LT.out; have h2 := LD.out; omega) hcur.size ?_; intro v3 w3 own3 grow3 _; have hnow : Below w.heap.size w w3 := hcur.grown grow3 hcur.size (fun k hk => (own2.lt k hk).1)))
    all_goals
      clear own1 own2
      go_wp2_with fail
      go_meet
      refine ⟨_, putin own3 hX0.out, put_mk HXX.out ha hkl, And.left (by assumption : Below w.heap.size w w3 ∧ (∀ b o, b < w.heap.size → World.cell? w3 ⟨b, o, none⟩ = w.cell? ⟨b, o, none⟩))⟩
  case rest =>
    obtain ⟨M, hM, ⟨hp1, hp2, hp3, hp4⟩, hbc⟩ := hcut
    have HM := Lib.hid hM
    obtain ⟨_, AM, cM, rfl, _⟩ := hM
    have HML : Hid (∀ x ∈ M, x < 2 * S) := fun x hx => (hp4 x hx).elim (HL.out x) id
    have ZL : Hid (l.zipIdx.length ≤ 1000) := by show l.zipIdx.length ≤ 1000; rw [List.length_zipIdx]; omega
    have ZM : Hid (M.zipIdx.length ≤ 1000) := by show M.zipIdx.length ≤ 1000; rw [List.length_zipIdx]; omega
    have PL := Lib.hid (zip_lt HL.out)
    have PM := Lib.hid (zip_lt HML.out)
    have M1 : M.length ≤ 100 := by omega
    have P1 := Lib.hid hp1
    have P2 := Lib.hid hp2
    have P3 := Lib.hid hp3
    clear hp1 hp2 hp3 hp4 wr0 wr1 wr2 hT hD SOF
    go_wp2_with fail
    refine (told_any l _ wc ((H0.out.below hbc).more hbc.size) (by omega)).mono ?_
    rintro e w1 ⟨v1, rfl, hown1, hb1⟩
    go_wp2_with fail
    refine (of_any l.zipIdx v1 w1 (Slc.of_own hown1) ZL.out PL.out).mono ?_
    rintro e w2 ⟨g1, rfl, hg1, hb2⟩
    obtain ⟨s1, p1, q1, o1, rfl, hs1, e1⟩ := hg1
    have hbc2 := hb1.trans (hb2.mono hb1.size)
    rw [nums_zip] at e1 hs1
    have E1 := Lib.hid e1
    have S1 := Lib.hid hs1
    clear hb1 hb2 hown1 e1 hs1
    unfold gval
    go_wp2_with fail
    refine (told_any M _ w2 ((HM.out.below hbc2).more hbc2.size) (by omega)).mono ?_
    rintro e w3 ⟨v3, rfl, hown3, hb3⟩
    go_wp2_with fail
    refine (of_any M.zipIdx v3 w3 (Slc.of_own hown3) ZM.out PM.out).mono ?_
    rintro e w4 ⟨g2, rfl, hg2, hb4⟩
    obtain ⟨s2, p2, q2, o2, rfl, hs2, e2⟩ := hg2
    have hb04 : Below w.heap.size w w4 := (hbc.trans (hbc2.mono hbc.size)).trans ((hb3.trans (hb4.mono hb3.size)).mono (Nat.le_trans hbc.size hbc2.size))
    rw [nums_zip] at e2 hs2
    rw [P2.out] at e2 hs2
    rw [E1.out] at e2
    simp only [Value.tuple.injEq] at e2
    have e3 : p1 = p2 ∧ q1 = q2 := by simp at e2; exact ⟨e2.1, e2.2.1⟩
    obtain ⟨rfl, rfl⟩ := e3
    have hsum := sumB_of S1.out hs2
    have hs1 := S1.out.1
    have hs2' := hs2.1
    clear hb3 hb4 hown3 e2 hbc hbc2 hs2 S1 E1
    unfold gval
    have hno : nons M.zipIdx = nons l.zipIdx + 1 := by unfold nons; rw [wts_zip, wts_zip]; exact P3.out
    have hnl : nons l.zipIdx ≤ l.length := by have := nons_le l.zipIdx; rw [List.length_zipIdx] at this; exact this
    rw [hno, List.length_zipIdx, P1.out, Int.natCast_add, Int.natCast_add]
    clear hno
    generalize nons l.zipIdx = nn at hnl ⊢
    have C := Lib.hid (gsame_any l.length nn s1 p1 q1 l.length nn s2 p1 q1 hs1 hs2')
    have hg : gsameB l.length nn s1 p1 q1 l.length nn s2 p1 q1 = true := by unfold gsameB; rw [hsum]; unfold sameB; simp
    rw [hg] at C
    clear hg hs1 hs2' hsum
    have hs4 := hb04.size
    go_wp2_with fail
    go_region
    all_goals
      go_wp2_with fail
      refine (C.out _).mono ?_; rintro e w5 ⟨rfl, hb5⟩
      go_wp2_with fail
      refine (gauged_any _).mono ?_; rintro e w6 ⟨rfl, hb6⟩
      go_wp2_with fail
      go_ret
      refine ⟨rfl, ?_⟩
      have hbz := hb5.trans (hb6.mono hb5.size)
      refine Below.trans ?_ (hbz.mono ?_)
      · go_grown
      · have := hb04.size
        simp
        omega
end gaugeNone
end Go.Proofs.Ytimalebcbfhgaaa
