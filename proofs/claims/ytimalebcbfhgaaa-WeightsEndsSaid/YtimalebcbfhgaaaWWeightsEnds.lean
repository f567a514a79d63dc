/- The walk of WeightsEnds. -/
import Derived.Test.YtimalebcbfhgaaaW04f
import Derived.Test.YtimalebcbfhgaaaOpenCap
import Derived.Test.YtimalebcbfhgaaaAppSlc
import Derived.Test.YtimalebcbfhgaaaPlainS
import Derived.Deep.RegionHeld3
namespace Go.Proofs.Ytimalebcbfhgaaa
open Go.RowKit Fl Wt
namespace Wt
theorem same_self (x : Nat) : sameB x x = true := by unfold sameB; simp
theorem fls_append (a b : List Nat) : fls (a ++ b) = fls a ++ fls b := by unfold fls; rw [List.map_append]
theorem fls_one (l : List Nat) : ∀ u ∈ fls l, u.oneCell' = true := by
  intro u hu
  obtain ⟨x, _, rfl⟩ := List.mem_map.1 hu
  rfl
theorem Slc.drop1 {w : World} {B b off len c : Nat} {l : List Nat} (hc : ∀ j u, (u64s l)[j]? = some u → w.cell? ⟨b, off + j, none⟩ = some u) (hb : b < B) (hl : l.length = len) (k : Nat) :
    Slc w B 1 (.slice (some ⟨b, off + k, none⟩) (len - k) c) (l.drop k).length (u64s (l.drop k)) := by
  refine ⟨by rw [u64s_len, Nat.mul_one], _, _, by rw [List.length_drop, hl], fun _ => ⟨_, _, rfl, hb, fun j u hj => ?_⟩⟩
  rw [Nat.add_assoc]
  refine hc (k + j) u ?_
  rw [← hj]
  unfold u64s
  rw [List.map_drop, List.getElem?_drop]
theorem Slc.take1 {w : World} {B b off c : Nat} {l : List Nat} (hc : ∀ j u, (u64s l)[j]? = some u → w.cell? ⟨b, off + j, none⟩ = some u) (hb : b < B) (k : Nat) (hk : k ≤ l.length) :
    Slc w B 1 (.slice (some ⟨b, off, none⟩) k c) (l.take k).length (u64s (l.take k)) := by
  refine ⟨by rw [u64s_len, Nat.mul_one], _, _, by rw [List.length_take, Nat.min_eq_left hk], fun _ => ⟨_, _, rfl, hb, fun j u hj => ?_⟩⟩
  refine hc j u ?_
  have hjl : j < (l.take k).length := by
    have := (List.getElem?_eq_some_iff.1 hj).1
    rwa [u64s_len] at this
  rw [← hj]
  unfold u64s
  rw [List.map_take, List.getElem?_take, if_pos (by rw [List.length_take] at hjl; omega)]
theorem turned_mem {l : List Nat} {k f : Nat} : f ∈ l.drop k ++ l.take k ↔ f ∈ l := by
  have h : l.take k ++ l.drop k = l := List.take_append_drop k l
  rw [List.mem_append, or_comm, ← List.mem_append, h]
theorem turned_ends {l : List Nat} (k : Nat) (hl : ∀ f ∈ l, f < 2 * S) (hne : l ≠ []) : endsV (l.drop k ++ l.take k) = endsV l := by
  have hne2 : l.drop k ++ l.take k ≠ [] := by
    intro h
    obtain ⟨a, t, rfl⟩ := List.exists_cons_of_ne_nil hne
    have : a ∈ (a :: t).drop k ++ (a :: t).take k := turned_mem.2 (by simp)
    rw [h] at this
    cases this
  have hl2 : ∀ f ∈ l.drop k ++ l.take k, f < 2 * S := fun f hf => hl f (turned_mem.1 hf)
  obtain ⟨a1, a2⟩ := eLo_spec hne
  obtain ⟨b1, b2⟩ := eHi_spec hne
  have e1 : eLo (l.drop k ++ l.take k) = eLo l := eLo_unique hl2 (turned_mem.2 a1) fun f hf => a2 f (turned_mem.1 hf)
  have e2 : eHi (l.drop k ++ l.take k) = eHi l := eHi_unique hl2 (turned_mem.2 b1) fun f hf => b2 f (turned_mem.1 hf)
  unfold endsV
  rw [if_neg (by simpa using hne2), if_neg (by simpa using hne), e1, e2]
end Wt
namespace weightsEnds
set_option maxHeartbeats 4000000 in
theorem walk (l : List Nat) (v : Value) (a1 : Int) (w : World) (h : Slc w w.heap.size 1 v l.length (u64s l)) (hl : ∀ x ∈ l, x < 2 * S) (hcap : ∃ A c, v = .slice A l.length c ∧ l.length ≤ c ∧ c ≤ maxLen) (w1 : (Lit.int .u8 a1).wf = true) :
    Calls Try.prog 6 #[v, .int .u8 a1] w fun e w' => e = .returned (.bool true) ∧ Below w.heap.size w w' := by
  have H0 := Lib.hid h
  have HL := Lib.hid hl
  have ha := u8_of w1
  obtain ⟨i26, hi, hz0, hz1, hz2⟩ := info_parts info26
  obtain ⟨A', c', e', hc1, hc2⟩ := hcap
  obtain ⟨hlen, A, c, rfl, hcells⟩ := h
  injection e' with ea _ ec
  subst ea ec
  have HC := Lib.hid hcells
  unfold maxLen at hc2
  clear hcells hlen hl w1
  by_cases h0 : l.length = 0
  · have hz : ((l.length : Int) == 0) = true := by simpa using h0
    go_enter Try.func6, Try.ntmps6
    go_wp2_with fail
    refine (weighed_any _).mono ?_; rintro e w3 ⟨rfl, hb3⟩
    go_wp2_with fail
    go_ret
    exact ⟨rfl, hb3⟩
  have hz : ((l.length : Int) == 0) = false := by simpa using h0
  by_cases hbig : 60 < l.length
  · go_enter Try.func6, Try.ntmps6
    go_wp2_with fail
    refine (weighed_any _).mono ?_; rintro e w3 ⟨rfl, hb3⟩
    go_wp2_with fail
    go_ret
    exact ⟨rfl, hb3⟩
  · have hne : l ≠ [] := by rintro rfl; simp at h0
    obtain ⟨b0, off0, rfl, hlt0, hcell0⟩ := HC.out (by omega)
    obtain ⟨n, hn⟩ : ∃ n : Nat, n = a1.toNat := ⟨_, rfl⟩
    obtain rfl : a1 = (n : Int) := by omega
    obtain ⟨k, hk⟩ : ∃ k : Nat, k = n % l.length := ⟨_, rfl⟩
    have hkl : k < l.length := by rw [hk]; exact Nat.mod_lt _ (by omega)
    have hrem : ((n : Int) % (l.length : Int)) = (k : Int) := by rw [hk]; simp
    have HREM := Lib.hid hrem
    clear hrem
    have hE : endsV l = .tuple #[.float .f64 (eLo l), .float .f64 (eHi l), .bool true] := by
      unfold endsV
      rw [if_neg (by simpa using hne)]
    have hE2 := (turned_ends k HL.out hne).trans hE
    have HE := Lib.hid hE
    have HE2 := Lib.hid hE2
    obtain ⟨p, hp⟩ : ∃ p, eLo l = p := ⟨_, rfl⟩
    obtain ⟨q, hq⟩ : ∃ q, eHi l = q := ⟨_, rfl⟩
    have ps := eLo_spec hne
    have qs := eHi_spec hne
    rw [hp, hq] at HE HE2
    rw [hp] at ps
    rw [hq] at qs
    have hpS := HL.out _ ps.1
    have hqS := HL.out _ qs.1
    have hpp := same_self p
    have hqq := same_self q
    have PS := Lib.hid ps
    have QS := Lib.hid qs
    have HCELL := Lib.hid hcell0
    clear hn hk hE hE2 hp hq ps qs hne HC hcell0
    have k1 : (0 : Int) ≤ (k : Int) ∧ (k : Int) ≤ (l.length : Int) ∧ (k : Int) ≤ (c : Int) := by omega
    have k2 : ¬ c = k := by omega
    have k3 : ¬ l.length < k := by omega
    go_enter Try.func6, Try.ntmps6
    go_wp2_with fail
    refine (floats_any l _ w H0.out (by omega)).mono ?_
    rintro e w1 ⟨v1, rfl, hown1, hb1⟩
    have HS1 := Lib.hid (Slc.of_own hown1)
    clear hown1
    go_wp2_with fail
    refine (ends_any l v1 w1 HS1.out (by omega) HL.out).mono ?_
    rintro e w2 ⟨rfl, hb2⟩
    rw [HE.out]
    have hb02 := hb1.trans (hb2.mono hb1.size)
    clear hb1 hb2 HS1
    go_wp2_with fail
    rw [HREM.out]
    have hws := hb02.size
    have hblt : b0 < w2.heap.size := by omega
    have hcell2 : ∀ j u, (u64s l)[j]? = some u → w2.cell? ⟨b0, off0 + j, none⟩ = some u := fun j u hj => (hb02.cell (p := ⟨b0, off0 + j, none⟩) hlt0).trans (HCELL.out j u hj)
    have HD : Hid (Slc w2 w2.heap.size 1 (.slice (some ⟨b0, off0 + k, none⟩) (l.length - k) (c - k)) (l.drop k).length (u64s (l.drop k))) := Slc.drop1 hcell2 hblt rfl k
    have HT : Hid (Slc w2 w2.heap.size 1 (.slice (some ⟨b0, off0, none⟩) k c) (l.take k).length (u64s (l.take k))) := Slc.take1 hcell2 hblt k (by omega)
    have HCELL2 := Lib.hid hcell2
    have hld : (l.drop k).length ≤ 1000 := by rw [List.length_drop]; omega
    have hlt' : (l.take k).length ≤ 1000 := by rw [List.length_take]; omega
    have hlm : (l.drop k ++ l.take k).length ≤ 1000 := by rw [List.length_append, List.length_drop, List.length_take]; omega
    have LD := Lib.hid hld
    have LT := Lib.hid hlt'
    have LM := Lib.hid hlm
    have LS : Hid (∀ f ∈ l.drop k ++ l.take k, f < 2 * S) := fun f hf => HL.out f (turned_mem.1 hf)
    have SOF : Hid (∀ W : World, Below w2.heap.size w2 W → Below w2.heap.size w2 W ∧ (∀ b o, b < w2.heap.size → W.cell? ⟨b, o, none⟩ = w2.cell? ⟨b, o, none⟩)) :=
      fun W h => ⟨h, fun b o hb => h.cell (p := ⟨b, o, none⟩) hb⟩
    clear hcell2 hld hlt' hlm
    go_region_held3 (fun W => Below w2.heap.size w2 W ∧ (∀ b o, b < w2.heap.size → W.cell? ⟨b, o, none⟩ = w2.cell? ⟨b, o, none⟩))
      (first
        | exact SOF.out _ (by go_grown)
        | exact SOF.out _ (by assumption))
      (first
        | (go_at_call 15; have hcur := And.left ‹Below w2.heap.size w2 _ ∧ (∀ b o, b < w2.heap.size → World.cell? _ ⟨b, o, none⟩ = w2.cell? ⟨b, o, none⟩)›; (with_reducible refine (floats_any (l.drop k) (.slice (some ⟨b0, off0 + k, none⟩) (l.length - k) (c - k)) _ ((HD.out.below hcur).more hcur.size) LD.out).mono ?_); have hcurd := hcur; rintro e wd ⟨vd, rfl, ownd, hbd⟩; have hnow : Below w2.heap.size w2 wd := hcur.trans (Below.mono hbd hcur.size))
        | (go_at_call 15; have hcur := And.left ‹Below w2.heap.size w2 _ ∧ (∀ b o, b < w2.heap.size → World.cell? _ ⟨b, o, none⟩ = w2.cell? ⟨b, o, none⟩)›; (with_reducible refine (floats_any (l.take k) (.slice (some ⟨b0, off0, none⟩) k c) _ ((HT.out.below hcur).more hcur.size) LT.out).mono ?_); rintro e wt ⟨vt, rfl, ownt, hbt⟩; have ownk := own_keep ownd hbt; have hnow : Below w2.heap.size w2 wt := hcur.trans (Below.mono hbt hcur.size))
        | (have hcur := And.left ‹Below w2.heap.size w2 _ ∧ (∀ b o, b < w2.heap.size → World.cell? _ ⟨b, o, none⟩ = w2.cell? ⟨b, o, none⟩)›; refine step_append_slc _ (by rfl) (.tmp 41) (.tmp 45) 24 (by rfl) _ 26 i26 _ 1 8 Try.underlying24 hi hz0 hz1 hz2 rfl (by omega) _ (l.drop k).length (fls (l.drop k)) (by rfl) ownk _ _ (l.take k).length (fls (l.take k)) (by rfl) (Slc.of_own ownt) (fls_one _) (by have h1 := LD.out; have h2 := LT.out; unfold maxLen; omega) (by have h1 := LD.out; have h2 := LT.out; omega) (Nat.le_trans hbd.size hbt.size) ?_; intro va wa owna growa _; have hnow : Below w2.heap.size w2 wa := hcur.grown growa hcur.size (fun j hj => Nat.le_trans hcurd.size (ownk.lt j hj).1))
        | (go_at_call 16; have hcur := And.left ‹Below w2.heap.size w2 _ ∧ (∀ b o, b < w2.heap.size → World.cell? _ ⟨b, o, none⟩ = w2.cell? ⟨b, o, none⟩)›; (with_reducible refine (ends_any (l.drop k ++ l.take k) va _ (by rw [List.length_append, fls_append]; exact Slc.of_own owna) LM.out LS.out).mono ?_); rintro e we ⟨rfl, hbe⟩; rw [HE2.out]; have hnow : Below w2.heap.size w2 we := hcur.trans (Below.mono hbe hcur.size)))
    clear owna ownk ownd ownt
    go_wp2_with fail
    rename Below w2.heap.size w2 we ∧ _ => hheld
    obtain ⟨hb2e, hcc⟩ := hheld
    clear hcc
    have hb0e := hb02.trans (hb2e.mono hws)
    have hce : ∀ j u, (u64s l)[j]? = some u → we.cell? ⟨b0, off0 + j, none⟩ = some u := fun j u hj => (hb2e.cell (p := ⟨b0, off0 + j, none⟩) hblt).trans (HCELL2.out j u hj)
    have HCE := Lib.hid hce
    have hblte : b0 < we.heap.size := Nat.lt_of_lt_of_le hblt hb2e.size
    generalize hone : (fun f : Nat => sameB f p) = t1
    generalize htwo : (fun f : Nat => sameB f q) = t2
    have ONE : Hid (∀ f, sameB f p = t1 f) := fun f => by rw [← hone]
    have TWO : Hid (∀ f, sameB f q = t2 f) := fun f => by rw [← htwo]
    clear hone htwo hce hnow hcurd hcur hbe hb2e
    go_loopw [12, 13, 14] (fun x y i wr => ∃ m : Nat, m ≤ l.length ∧ i = .int .i64 m ∧ x = .bool ((l.take m).any t1) ∧ y = .bool ((l.take m).any t2) ∧ we = wr) (fun _ _ i _ => l.length - (intOf i).toNat)
    case atStart => exact ⟨0, Nat.zero_le _, rfl, rfl, rfl, rfl⟩
    case round =>
      obtain ⟨m, hm, rfl, rfl, rfl, rfl⟩ := hrel
      by_cases hlt : m < l.length
      · have ck : we.cell? ⟨b0, off0 + m, none⟩ = some (.int .u64 (l[m] : Int)) := HCE.out m _ (u64s_get hlt)
        have A1 := Lib.hid (any_snoc t1 hlt)
        have A2 := Lib.hid (any_snoc t2 hlt)
        have hf := HL.out _ (List.getElem_mem hlt)
        have l1 : lessB l[m] p = false := (less_not _ _).2 (PS.out.2 _ (List.getElem_mem hlt))
        have l2 : lessB q l[m] = false := (less_not _ _).2 (QS.out.2 _ (List.getElem_mem hlt))
        have s1 := ONE.out l[m]
        have s2 := TWO.out l[m]
        have hfb := frombits (l[m] : Int)
        rw [Int.toNat_natCast] at hfb
        generalize t1 l[m] = c1 at A1 s1
        generalize t2 l[m] = c2 at A2 s2
        generalize l[m] = f at ck hf l1 l2 s1 s2 hfb
        generalize (l.take m).any t1 = e1 at A1 ⊢
        generalize (l.take m).any t2 = e2 at A2 ⊢
        clear hpp hqq
        cases e1 <;> cases e2
        all_goals
          go_wp2_with (first
            | (go_at_call 24; (with_reducible refine (less_any _ _ (by assumption) (by assumption) _).mono ?_); rintro e w' ⟨rfl, rfl⟩)
            | (go_at_call 26; (with_reducible refine (same_any _ _ _).mono ?_); rintro e w' ⟨rfl, rfl⟩))
          go_roundw
          case rel => exact ⟨m + 1, by omega, by go_num, by rw [A1.out]; rfl, by rw [A2.out]; rfl, trivial⟩
          case measure => simp [intOf]; omega
      · obtain rfl : m = l.length := by omega
        rw [List.take_length]
        have x1 : l.any t1 = true := List.any_eq_true.2 ⟨p, PS.out.1, by rw [← ONE.out]; exact hpp⟩
        have x2 : l.any t2 = true := List.any_eq_true.2 ⟨q, QS.out.1, by rw [← TWO.out]; exact hqq⟩
        rw [x1, x2]
        clear x1 x2
        go_wp2_with fail
        refine (same_any _ _ _).mono ?_; rintro e w' ⟨rfl, rfl⟩
        go_wp2_with fail
        refine (same_any _ _ _).mono ?_; rintro e w' ⟨rfl, rfl⟩
        go_wp2_with fail
        refine (weighed_any _).mono ?_; rintro e w3 ⟨rfl, hb3⟩
        go_wp2_with fail
        go_ret
        exact ⟨rfl, hb0e.trans (hb3.mono hb0e.size)⟩
end weightsEnds
end Go.Proofs.Ytimalebcbfhgaaa
