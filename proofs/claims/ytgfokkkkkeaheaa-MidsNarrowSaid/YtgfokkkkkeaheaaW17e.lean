/- The walk of the reference Sort (entries, put in one by one). -/
import Derived.Test.YtgfokkkkkeaheaaW17d
import Derived.Test.YtgfokkkkkeaheaaPlain17b
import Derived.Test.YtgfokkkkkeaheaaAppSlc
import Derived.Deep.RegionHeld3
namespace Go.Proofs.Ytgfokkkkkeaheaa
namespace Md
open Go.RowKit
theorem neq_ent (z0 z1 z2 e0 e1 e2 : Int) (r : Bool) (hr : (!(z0 == e0 && (z1 == e1 && z2 == e2))) = r) (w : World) :
    (binOp .neq 37 (.agg #[.int .u64 z0, .int .i64 z1, .int .i64 z2]) (.agg #[.int .u64 e0, .int .i64 e1, .int .i64 e2])).run Try.prog w = .ok (.bool r) w := by
  subst hr
  by_cases h0 : z0 = e0
  · have b0 : (z0 == e0) = true := by simpa using h0
    by_cases h1 : z1 = e1
    · have b1 : (z1 == e1) = true := by simpa using h1
      by_cases h2 : z2 = e2
      · have b2 : (z2 == e2) = true := by simpa using h2
        simp [go_sem, b0, b1, b2]
      · have b2 : (z2 == e2) = false := by simpa using h2
        simp [go_sem, b0, b1, b2]
    · have b1 : (z1 == e1) = false := by simpa using h1
      simp [go_sem, b0, b1]
  · have b0 : (z0 == e0) = false := by simpa using h0
    simp [go_sem, b0]
theorem ent_eq {a b : Ent} (h : (!(a.h == b.h && (a.v == b.v && a.p == b.p))) = false) : a = b := by
  obtain ⟨a0, a1, a2⟩ := a
  obtain ⟨b0, b1, b2⟩ := b
  simp at h
  obtain ⟨rfl, rfl, rfl⟩ := h
  rfl

theorem ents_one (l : List Ent) : ∀ u ∈ ents l, u.oneCell' = true := by
  intro u hu
  simp [ents, Ent.cells] at hu
  obtain ⟨e, _, rfl | rfl | rfl⟩ := hu <;> rfl
theorem ent_one (e : Ent) : ∀ u ∈ e.cells, u.oneCell' = true := by
  intro u hu
  simp [Ent.cells] at hu
  rcases hu with rfl | rfl | rfl <;> rfl
theorem ents_append (l m : List Ent) : ents (l ++ m) = ents l ++ ents m := by simp [ents]
theorem ents_take (l : List Ent) (k : Nat) : ents (l.take k) = (ents l).take (k * 3) := by
  induction l generalizing k with
  | nil => simp [ents]
  | cons a l ih =>
    cases k with
    | zero => simp [ents]
    | succ k =>
      have e1 : ents (a :: l) = a.cells ++ ents l := rfl
      have e2 : ents (a :: l.take k) = a.cells ++ ents (l.take k) := rfl
      have e3 : a.cells.length = 3 := rfl
      have e4 : a.cells.take ((k + 1) * 3) = a.cells := List.take_of_length_le (by rw [e3]; omega)
      rw [List.take_succ_cons, e2, e1, ih, List.take_append, e3, e4, show (k + 1) * 3 - 3 = k * 3 by omega]
theorem ents_drop (l : List Ent) (k : Nat) : ents (l.drop k) = (ents l).drop (k * 3) := by
  have h : ents (l.take k ++ l.drop k) = ents l := by rw [List.take_append_drop]
  rw [ents_append, ents_take] at h
  have h2 : (ents l).take (k * 3) ++ (ents l).drop (k * 3) = ents l := List.take_append_drop _ _
  exact List.append_cancel_left (h.trans h2.symm)
/-- a cut of a row -/
theorem slc_take {w : World} {B g cap k : Nat} {s : List Ent} (hb : g < B) (h : ∀ j u, (ents s)[j]? = some u → w.cell? ⟨g, 0 + j, none⟩ = some u) (hk : k ≤ s.length) :
    Slc w B 3 (.slice (some ⟨g, 0, none⟩) k cap) k (ents (s.take k)) := by
  refine ⟨by rw [ents_len, List.length_take]; omega, _, _, rfl, fun _ => ⟨g, 0, rfl, hb, fun j u hj => h j u ?_⟩⟩
  rw [ents_take, List.getElem?_take] at hj
  split at hj
  · exact hj
  · cases hj
theorem slc_drop {w : World} {B g c k : Nat} {s : List Ent} (hb : g < B) (h : ∀ j u, (ents s)[j]? = some u → w.cell? ⟨g, 0 + j, none⟩ = some u) :
    Slc w B 3 (.slice (some ⟨g, k * 3, none⟩) (s.length - k) c) (s.length - k) (ents (s.drop k)) := by
  refine ⟨by rw [ents_len, List.length_drop], _, _, rfl, fun _ => ⟨g, k * 3, rfl, hb, fun j u hj => ?_⟩⟩
  rw [ents_drop, List.getElem?_drop] at hj
  have := h _ u hj
  rw [Nat.zero_add] at this
  exact this
theorem slc_empty (w : World) (B : Nat) (A : Option Addr) (c : Nat) : Slc w B 3 (.slice A 0 c) 0 (ents []) := ⟨by simp [ents], _, _, rfl, fun h => absurd h (by omega)⟩
theorem less_total {a b : Ent} (hn : a ≠ b) (h : less a b = false) : less b a = true := by
  have h1 : ¬ less a b = true := by simp [h]
  rw [less_iff] at h1 ⊢
  have : ¬ (a.h = b.h ∧ a.v = b.v ∧ a.p = b.p) := by
    rintro ⟨h1, h2, h3⟩
    obtain ⟨a0, a1, a2⟩ := a
    obtain ⟨b0, b1, b2⟩ := b
    simp only at h1 h2 h3
    subst h1 h2 h3
    exact hn rfl
  omega
theorem ins_get (s : List Ent) (e : Ent) (k : Nat) (hk : k ≤ s.length) (i : Nat) (hi : i < (s.take k ++ [e] ++ s.drop k).length) :
    (s.take k ++ [e] ++ s.drop k)[i] = if h1 : i < k then s[i]'(by omega) else if h2 : i = k then e else s[i - 1]'(by simp at hi; omega) := by
  have hl : (s.take k).length = k := by rw [List.length_take]; omega
  by_cases h1 : i < k
  · rw [dif_pos h1, List.getElem_append_left (by rw [List.length_append, hl]; simp; omega), List.getElem_append_left (by omega), List.getElem_take]
  · rw [dif_neg h1]
    by_cases h2 : i = k
    · rw [dif_pos h2, List.getElem_append_left (by rw [List.length_append, hl]; simp; omega), List.getElem_append_right (by omega)]
      simp
    · rw [dif_neg h2, List.getElem_append_right (by rw [List.length_append, hl]; simp; omega), List.getElem_drop]
      congr 1
      rw [List.length_append, hl]
      simp
      omega
theorem rise_ins (s : List Ent) (e : Ent) (k : Nat) (hs : Rise s) (hk : k ≤ s.length) (h1 : ∀ j (hj : j < s.length), j < k → less s[j] e = true)
    (h2 : ∀ h : k < s.length, less s[k] e = false ∧ s[k] ≠ e) : Rise (s.take k ++ [e] ++ s.drop k) := by
  intro i j hj hij
  have hlen : (s.take k ++ [e] ++ s.drop k).length = s.length + 1 := by simp; omega
  rw [ins_get s e k hk i (by omega), ins_get s e k hk j hj]
  by_cases a1 : j < k
  · rw [dif_pos (by omega), dif_pos a1]
    exact hs i j (by omega) hij
  · rw [dif_neg a1]
    by_cases a2 : j = k
    · rw [dif_pos a2, dif_pos (by omega)]
      exact h1 i (by omega) (by omega)
    · rw [dif_neg a2]
      by_cases b1 : i < k
      · rw [dif_pos b1]
        exact hs i (j - 1) (by omega) (by omega)
      · rw [dif_neg b1]
        have hkl : k < s.length := by omega
        obtain ⟨h3, h4⟩ := h2 hkl
        have h5 := less_total h4 h3
        by_cases b2 : i = k
        · rw [dif_pos b2]
          by_cases c1 : j - 1 = k
          · have e1 : s[j - 1]'(by omega) = s[k] := by congr 1
            rw [e1]
            exact h5
          · exact less_trans h5 (hs k (j - 1) (by omega) (by omega))
        · rw [dif_neg b2]
          exact hs (i - 1) (j - 1) (by omega) (by omega)
theorem below_drew2 {w : World} (B : Nat) : Below B w w.drew := (Below.refl _ _).drew
theorem new_ent (w : World) (e : Ent) (c : Nat) : Slc (w.alloc (.cells #[.int .u64 e.h, .int .i64 e.v, .int .i64 e.p] 37)) (w.heap.size + 1) 3 (.slice (some ⟨w.heap.size, 0, none⟩) 1 c) 1 e.cells :=
  Slc.new (xs := e.cells) w 37 (by rfl)

theorem ownsRow_low {w : World} {B B' : Nat} {e : TypeId} {sz n : Nat} {v : Value} {xs : List Value} (h : w.ownsRow B e sz v n xs) (hB : B' ≤ B) : w.ownsRow B' e sz v n xs := by
  refine ⟨h.1, ?_⟩
  rcases h.2 with h0 | ⟨g, cap, cur, h1, h2, h3⟩
  · exact Or.inl h0
  · exact Or.inr ⟨g, cap, cur, h1, by omega, h3⟩
theorem inslast {w3 wb wq : World} {B : Nat} {v3 : Value} {s : List Ent} {e : Ent} (h : w3.ownsRow wq.heap.size 37 3 v3 (s.length + 1 + 0) (ents s ++ e.cells ++ ents []))
    (h1 : wb.heap.size ≤ wq.heap.size) (h2 : B ≤ wb.heap.size) : w3.ownsRow B 37 3 v3 (s ++ [e]).length (ents (s ++ [e])) := by
  have e1 : (s ++ [e]).length = s.length + 1 + 0 := by simp
  have e2 : ents (s ++ [e]) = ents s ++ e.cells ++ ents [] := by
    rw [ents_append]
    simp [ents]
  rw [e1, e2]
  exact ownsRow_low h (by omega)
theorem rise_last (s : List Ent) (e : Ent) (hs : Rise s) (h1 : ∀ j (hj : j < s.length), j < s.length → less s[j] e = true) : Rise (s ++ [e]) := by
  refine rise_snoc s e hs ?_
  rcases Nat.eq_zero_or_pos s.length with h0 | h0
  · exact Or.inl h0
  · exact Or.inr ⟨h0, h1 (s.length - 1) (by omega) (by omega)⟩
theorem insown {w3 wb wq : World} {B : Nat} {v3 : Value} {s : List Ent} {e : Ent} {k : Nat} (h : w3.ownsRow wq.heap.size 37 3 v3 (k + 1 + (s.length - k)) (ents (s.take k) ++ e.cells ++ ents (s.drop k))) (hk : k ≤ s.length)
    (h1 : wb.heap.size ≤ wq.heap.size) (h2 : B ≤ wb.heap.size) : w3.ownsRow B 37 3 v3 (s.take k ++ [e] ++ s.drop k).length (ents (s.take k ++ [e] ++ s.drop k)) := by
  have e1 : (s.take k ++ [e] ++ s.drop k).length = k + 1 + (s.length - k) := by simp; omega
  have e2 : ents (s.take k ++ [e] ++ s.drop k) = ents (s.take k) ++ e.cells ++ ents (s.drop k) := by
    rw [ents_append, ents_append]
    simp [ents]
  rw [e1, e2]
  exact ownsRow_low h (by omega)

set_option maxHeartbeats 1000000 in
set_option maxRecDepth 100000 in
theorem sort_any (l : List Ent) (v : Value) (w : World) (h : Slc w w.heap.size 3 v l.length (ents l)) (hn : l.length ≤ 1000) :
    Calls Try.prog 24 #[v] w fun e w' => ∃ v' s, e = .returned v' ∧ Slc w' w'.heap.size 3 v' s.length (ents s) ∧ Rise s ∧ s.length ≤ l.length ∧ Below w.heap.size w w' := by
  obtain ⟨i37, hi, hz0, hz1, hz2⟩ := info_parts info37
  obtain ⟨hlen, A, c, rfl, hcells⟩ := h
  have HC := Lib.hid hcells
  clear hcells hlen
  go_enter Try.func24, Try.ntmps24
  go_wp2_with fail
  go_loopw [3, 4] (fun o i wr => ∃ (k : Nat) (s : List Ent), k ≤ l.length ∧ i = .int .i64 k ∧ wr.ownsRow w.heap.size 37 3 o s.length (ents s) ∧ (s.length = 0 → o = .slice none 0 0) ∧ Rise s ∧ s.length ≤ k ∧ Below w.heap.size w wr) (fun _ i _ => l.length - (intOf i).toNat)
  case atStart => exact ⟨0, [], Nat.zero_le _, rfl, World.ownsRow_nil _ _ _ _, fun _ => rfl, fun i j hj => by simp at hj, Nat.zero_le _, Below.refl _ _⟩
  case round =>
    obtain ⟨i, s, hi', rfl, hown, hnil, hrise, hsl, hbel⟩ := hrel
    have hbs := hbel.size
    by_cases hlt : i < l.length
    · obtain ⟨b, off, rfl, hb, hcell⟩ := HC.out (by omega)
      obtain ⟨c0, c1, c2⟩ := ent_cells (w := wr) (fun j u h => (hbel.cell (p := ⟨b, off + j, none⟩) hb).trans (hcell j u h)) i hlt
      have hbw : b < wr.heap.size := by omega
      obtain ⟨e, he⟩ : ∃ e, l[i] = e := ⟨_, rfl⟩
      rw [he] at c0 c1 c2
      have C0 := Lib.hid c0
      have C1 := Lib.hid c1
      have C2 := Lib.hid c2
      have HR := Lib.hid hrise
      clear hcell he hrise c0 c1 c2
      obtain ⟨wb, rfl⟩ : ∃ wb : World, wb = wr := ⟨_, rfl⟩
      have hi1 : (0 : Int) ≤ (i : Int) ∧ (i : Int) < (l.length : Int) := by omega
      rcases Nat.eq_zero_or_pos s.length with hs0 | hs0
      · have hs : s = [] := List.eq_nil_of_length_eq_zero hs0
        subst hs
        have hov := hnil rfl
        subst hov
        clear hnil hown
        have HR' := HR.out
        go_wp2_with fail
        refine wp_loop_rounds 1 ?_
        rw [rounds_succ]
        go_wp2_with fail
        clear HR'
        go_quiet (fail)
        have hbq := below_drewN wb nq
        generalize wb.drewN nq = wx at hbq ⊢
        go_wp2_with fail
        go_quiet (fail)
        have hbq2 := hbq.trans (Below.mono (below_drewN wx nq) hbq.size)
        clear hbq
        have hbq := hbq2
        clear hbq2
        generalize wx.drewN nq = wq at hbq ⊢
        have c0 : wq.cell? ⟨b, off + i * 3, none⟩ = some (.int .u64 e.h) := (hbq.cell (p := ⟨b, off + i * 3, none⟩) hbw).trans C0.out
        have c1 : wq.cell? ⟨b, off + i * 3 + 1, none⟩ = some (.int .i64 e.v) := (hbq.cell (p := ⟨b, off + i * 3 + 1, none⟩) hbw).trans C1.out
        have c2 : wq.cell? ⟨b, off + i * 3 + 2, none⟩ = some (.int .i64 e.p) := (hbq.cell (p := ⟨b, off + i * 3 + 2, none⟩) hbw).trans C2.out
        have hbqs := hbq.size
        have hbwq : b < wq.heap.size := by omega
        have SOF : Hid (∀ W : World, Below wq.heap.size wq W → Below wq.heap.size wq W ∧ (∀ b o, b < wq.heap.size → W.cell? ⟨b, o, none⟩ = wq.cell? ⟨b, o, none⟩)) :=
          fun W h => ⟨h, fun b o hb => h.cell (p := ⟨b, o, none⟩) hb⟩
        have hri : Rise ([] ++ [e]) := rise_last [] e HR.out (fun j hj => by simp at hj)
        have RI := Lib.hid hri
        clear hri
        have SL1 : Hid (Slc wq wq.heap.size 3 (.slice none 0 0) 0 (ents [])) := slc_empty wq wq.heap.size none 0
        go_wp2_with fail
        go_region_held3 (fun W => Below wq.heap.size wq W ∧ (∀ b o, b < wq.heap.size → W.cell? ⟨b, o, none⟩ = wq.cell? ⟨b, o, none⟩))
          (first
            | exact SOF.out _ (by go_grown)
            | exact SOF.out _ (by assumption))
          (first
            | (have hcur := And.left ‹Below wq.heap.size wq _ ∧ (∀ b o, b < wq.heap.size → World.cell? _ ⟨b, o, none⟩ = wq.cell? ⟨b, o, none⟩)›; refine step_append_slc _ (by rfl) (.const (.slice none 0 0)) (.tmp 46) 32 (by rfl) wq.heap.size 37 i37 _ 3 24 Try.underlying32 hi hz0 hz1 hz2 rfl (by omega) (.slice none 0 0) 0 [] (by rfl) (World.ownsRow_nil _ _ _ _) _ _ 0 (ents []) (by rfl) (SL1.out.below hcur) (ents_one _) (by unfold maxLen; omega) (by omega) hcur.size ?_; intro v1 w1 own1 grow1 _; rw [Nat.zero_add, List.nil_append] at own1; have hstep1 := (Below.refl _ _).grown grow1 (Nat.le_refl _) (fun k hk => by cases hk); have hnow : Below wq.heap.size wq w1 := hcur.grown grow1 hcur.size (fun k hk => by cases hk); have hsz1 := hnow.size)
            | (have hcur := And.left ‹Below wq.heap.size wq _ ∧ (∀ b o, b < wq.heap.size → World.cell? _ ⟨b, o, none⟩ = wq.cell? ⟨b, o, none⟩)›; refine step_append_slc _ (by rfl) (.tmp 47) (.tmp 52) 32 (by rfl) wq.heap.size 37 i37 _ 3 24 Try.underlying32 hi hz0 hz1 hz2 rfl (by omega) _ 0 (ents []) (by rfl) (by first | exact own1 | exact own1.alloc _) _ _ 1 e.cells (by rfl) (by first | exact new_ent w1 e _ | exact Slc.below (new_ent wq e _) ((below_drew2 _).trans (Below.mono hstep1 (by simp)))) (ent_one _) (by unfold maxLen; omega) (by omega) hcur.size ?_; intro v2 w2 own2 grow2 _; have hnow : Below wq.heap.size wq w2 := hcur.grown grow2 hcur.size (fun k hk => (own1.lt k hk).1))
            | (have hcur := And.left ‹Below wq.heap.size wq _ ∧ (∀ b o, b < wq.heap.size → World.cell? _ ⟨b, o, none⟩ = wq.cell? ⟨b, o, none⟩)›; refine step_append_slc _ (by rfl) (.tmp 53) (.tmp 56) 32 (by rfl) wq.heap.size 37 i37 _ 3 24 Try.underlying32 hi hz0 hz1 hz2 rfl (by omega) _ (0 + 1) (ents [] ++ e.cells) (by rfl) own2 _ _ (0) (ents []) (by rfl) ((slc_empty wq wq.heap.size _ _).below hcur) (ents_one _) (by unfold maxLen; omega) (by omega) hcur.size ?_; intro v3 w3 own3 grow3 _; have hnow : Below wq.heap.size wq w3 := hcur.grown grow3 hcur.size (fun k hk => (own2.lt k hk).1)))
        all_goals
          clear own1 own2
          go_wp2_with fail
          go_roundw
          case rel => exact ⟨i + 1, [] ++ [e], by omega, by go_num, inslast (s := []) own3 hbqs hbs, fun h => absurd h (by simp), RI.out, by simp, (hbel.trans (hbq.mono hbs)).trans (Below.mono (by assumption) (Nat.le_trans hbs hbqs))⟩
          case measure => simp [intOf]; omega
      · obtain ⟨g, cap, rfl, hg1, hg2⟩ := hown.form hs0
        have hg3 : ∀ j u, (ents s)[j]? = some u → wb.cell? ⟨g, 0 + j, none⟩ = some u := by
          intro j u hj
          have hj2 : j < s.length * 3 := by
            have := (List.getElem?_eq_some_iff.1 hj).1
            rw [ents_len] at this
            exact this
          rw [Nat.zero_add, hown.cellAt j hj2, hj]
        have hcap : s.length ≤ cap ∧ cap ≤ maxLen := by
          rcases hown.2 with ⟨h', _⟩ | ⟨g', cap', cur, h', _, _, hn', hm', _⟩
          · cases h'
          · injection h' with _ _ h'
            subst h'
            exact ⟨hn', hm'⟩
        obtain ⟨hcap, hcapm⟩ := hcap
        have hcapi : (s.length : Int) ≤ (cap : Int) ∧ (cap : Int) ≤ 9223372036854775807 := by unfold maxLen at hcapm; omega
        have HG := Lib.hid hg3
        have HO := Lib.hid hown
        have HB := Lib.hid hbel
        have HN := Lib.hid hnil
        clear hg3 hown hbel hnil
        go_wp2_with fail
        go_loopw [5] (fun kk wr => ∃ k : Nat, k ≤ s.length ∧ kk = .int .i64 k ∧ (∀ j (hj : j < s.length), j < k → less s[j] e = true) ∧ Below wb.heap.size wb wr) (fun kk _ => s.length - (intOf kk).toNat)
        case atStart => exact ⟨0, Nat.zero_le _, rfl, fun j hj h => absurd h (by omega), Below.refl _ _⟩
        case round =>
          obtain ⟨k, hk, rfl, hless, hbr⟩ := hrel
          have HL := Lib.hid hless
          clear hless
          have hbrs := hbr.size
          by_cases hkl : k < s.length
          · have hd : decide ((k : Int) < (s.length : Int)) = true := by simpa using hkl
            obtain ⟨d0, d1, d2⟩ := ent_cells (w := wr) (fun j u h => (hbr.cell (p := ⟨g, 0 + j, none⟩) hg2).trans (HG.out j u h)) k hkl
            simp only [Nat.zero_add] at d0 d1 d2
            have c0 : wr.cell? ⟨b, off + i * 3, none⟩ = some (.int .u64 e.h) := (hbr.cell (p := ⟨b, off + i * 3, none⟩) hbw).trans C0.out
            have c1 : wr.cell? ⟨b, off + i * 3 + 1, none⟩ = some (.int .i64 e.v) := (hbr.cell (p := ⟨b, off + i * 3 + 1, none⟩) hbw).trans C1.out
            have c2 : wr.cell? ⟨b, off + i * 3 + 2, none⟩ = some (.int .i64 e.p) := (hbr.cell (p := ⟨b, off + i * 3 + 2, none⟩) hbw).trans C2.out
            obtain ⟨z, hz⟩ : ∃ z, s[k] = z := ⟨_, rfl⟩
            rw [hz] at d0 d1 d2
            have HZ := Lib.hid hz
            have hk1 : (0 : Int) ≤ (k : Int) ∧ (k : Int) < (s.length : Int) := by omega
            have hgr : g < wr.heap.size := by omega
            have hbr' : b < wr.heap.size := by omega
            clear hz
            have SOF : Hid (∀ W : World, Below wr.heap.size wr W → Below wr.heap.size wr W ∧ (∀ b o, b < wr.heap.size → W.cell? ⟨b, o, none⟩ = wr.cell? ⟨b, o, none⟩)) :=
              fun W h => ⟨h, fun b o hb => h.cell (p := ⟨b, o, none⟩) hb⟩
            go_wp2_with fail
            go_region_held3 (fun W => Below wr.heap.size wr W ∧ (∀ b o, b < wr.heap.size → W.cell? ⟨b, o, none⟩ = wr.cell? ⟨b, o, none⟩))
              (first
                | exact SOF.out _ (by go_grown)
                | exact SOF.out _ (by assumption))
              (first
                | (go_simp; go_at_call 38; have hcur := And.left ‹Below wr.heap.size wr _ ∧ (∀ b o, b < wr.heap.size → World.cell? _ ⟨b, o, none⟩ = wr.cell? ⟨b, o, none⟩)›; refine (ref_less _ _ _ _ _ _ _).mono ?_; rintro e w' ⟨rfl, hb'⟩; have hnow := Below.trans hcur (Below.mono hb' hcur.size)))
            have hnow := And.left (by assumption : Below wr.heap.size wr _ ∧ (∀ b o, b < wr.heap.size → World.cell? _ ⟨b, o, none⟩ = wr.cell? ⟨b, o, none⟩))
            have hbr2 := hbr.trans (hnow.mono hbrs)
            clear hcur hb' SOF
            cases hlz : less z e with
            | true =>
              have hlz' : less ⟨z.h, z.v, z.p⟩ ⟨e.h, e.v, e.p⟩ = true := hlz
              have HLZ := Lib.hid hlz
              clear hlz hnow d0 d1 d2 c0 c1 c2
              go_wp2_with fail
              go_roundw
              case rel => exact ⟨k + 1, by omega, by go_num, fun j hj h => (by
                by_cases hjk : j = k
                · subst hjk
                  rw [HZ.out]
                  exact HLZ.out
                · exact HL.out j hj (by omega)), hbr2⟩
              case measure => simp [intOf]; omega
            | false =>
              have hlz' : less ⟨z.h, z.v, z.p⟩ ⟨e.h, e.v, e.p⟩ = false := hlz
              have HLZ := Lib.hid hlz
              clear hlz
              have d0 : w'.cell? ⟨g, k * 3, none⟩ = some (.int .u64 z.h) := (hnow.cell (p := ⟨g, k * 3, none⟩) hgr).trans d0
              have d1 : w'.cell? ⟨g, k * 3 + 1, none⟩ = some (.int .i64 z.v) := (hnow.cell (p := ⟨g, k * 3 + 1, none⟩) hgr).trans d1
              have d2 : w'.cell? ⟨g, k * 3 + 2, none⟩ = some (.int .i64 z.p) := (hnow.cell (p := ⟨g, k * 3 + 2, none⟩) hgr).trans d2
              have c0 : w'.cell? ⟨b, off + i * 3, none⟩ = some (.int .u64 e.h) := (hnow.cell (p := ⟨b, off + i * 3, none⟩) hbr').trans c0
              have c1 : w'.cell? ⟨b, off + i * 3 + 1, none⟩ = some (.int .i64 e.v) := (hnow.cell (p := ⟨b, off + i * 3 + 1, none⟩) hbr').trans c1
              have c2 : w'.cell? ⟨b, off + i * 3 + 2, none⟩ = some (.int .i64 e.p) := (hnow.cell (p := ⟨b, off + i * 3 + 2, none⟩) hbr').trans c2
              have hne : ((k : Int) == (s.length : Int)) = false := beq_eq_false_iff_ne.2 (by omega)
              clear hnow
              obtain ⟨r, hr⟩ : ∃ r : Bool, (!(z.h == e.h && (z.v == e.v && z.p == e.p))) = r := ⟨_, rfl⟩
              have hneq := fun w => neq_ent z.h z.v z.p e.h e.v e.p r hr w
              have HRR := Lib.hid hr
              clear hr
              go_wp2_with fail
              go_quiet (fail)
              have hbq := hbr2.trans (Below.mono (below_drewN w' nq) hbr2.size)
              clear hneq d0 d1 d2 c0 c1 c2 hlz' hne hd
              generalize w'.drewN nq = wq at hbq ⊢
              clear hbr2
              cases r with
              | false =>
                go_wp2_with fail
                go_roundw
                case rel => exact ⟨i + 1, s, by omega, by go_num, own_keep HO.out hbq, HN.out, HR.out, by omega, HB.out.trans (hbq.mono hbs)⟩
                case measure => simp [intOf]; omega
              | true =>
                have c0 : wq.cell? ⟨b, off + i * 3, none⟩ = some (.int .u64 e.h) := (hbq.cell (p := ⟨b, off + i * 3, none⟩) hbw).trans C0.out
                have c1 : wq.cell? ⟨b, off + i * 3 + 1, none⟩ = some (.int .i64 e.v) := (hbq.cell (p := ⟨b, off + i * 3 + 1, none⟩) hbw).trans C1.out
                have c2 : wq.cell? ⟨b, off + i * 3 + 2, none⟩ = some (.int .i64 e.p) := (hbq.cell (p := ⟨b, off + i * 3 + 2, none⟩) hbw).trans C2.out
                have hbqs := hbq.size
                have hbwq : b < wq.heap.size := by omega
                have SOF : Hid (∀ W : World, Below wq.heap.size wq W → Below wq.heap.size wq W ∧ (∀ b o, b < wq.heap.size → W.cell? ⟨b, o, none⟩ = wq.cell? ⟨b, o, none⟩)) :=
                  fun W h => ⟨h, fun b o hb => h.cell (p := ⟨b, o, none⟩) hb⟩
                have hk2 : (k : Int) ≤ (s.length : Int) ∧ (k : Int) ≤ (cap : Int) := by omega
                have SL1 : Hid (Slc wq wq.heap.size 3 (.slice (some ⟨g, 0, none⟩) k cap) k (ents (s.take k))) :=
                  slc_take (by omega) (fun j u h => (hbq.cell (p := ⟨g, 0 + j, none⟩) hg2).trans (HG.out j u h)) hk
                have SL3 : ∀ A : Option Addr, (A = some ⟨g, k * 3, none⟩ ∨ k = s.length) → ∀ c, Slc wq wq.heap.size 3 (.slice A (s.length - k) c) (s.length - k) (ents (s.drop k)) := by
                  intro A hA c
                  rcases hA with rfl | rfl
                  · exact slc_drop (by omega) (fun j u h => (hbq.cell (p := ⟨g, 0 + j, none⟩) hg2).trans (HG.out j u h))
                  · rw [Nat.sub_self, List.drop_length]
                    exact slc_empty _ _ _ _
                have SL3' := Lib.hid SL3
                clear SL3
                have hri : Rise (s.take k ++ [e] ++ s.drop k) := rise_ins s e k HR.out hk HL.out (fun _ => by
                  rw [HZ.out]
                  refine ⟨HLZ.out, ?_⟩
                  rintro rfl
                  have := HRR.out
                  simp at this)
                have RI := Lib.hid hri
                clear hri
                have hck : ¬ cap = k := by omega
                go_wp2_with fail
                go_region_held3 (fun W => Below wq.heap.size wq W ∧ (∀ b o, b < wq.heap.size → W.cell? ⟨b, o, none⟩ = wq.cell? ⟨b, o, none⟩))
                  (first
                    | exact SOF.out _ (by go_grown)
                    | exact SOF.out _ (by assumption))
                  (first
                    | (have hcur := And.left ‹Below wq.heap.size wq _ ∧ (∀ b o, b < wq.heap.size → World.cell? _ ⟨b, o, none⟩ = wq.cell? ⟨b, o, none⟩)›; refine step_append_slc _ (by rfl) (.const (.slice none 0 0)) (.tmp 46) 32 (by rfl) wq.heap.size 37 i37 _ 3 24 Try.underlying32 hi hz0 hz1 hz2 rfl (by omega) (.slice none 0 0) 0 [] (by rfl) (World.ownsRow_nil _ _ _ _) _ _ k (ents (s.take k)) (by rfl) (SL1.out.below hcur) (ents_one _) (by unfold maxLen; omega) (by omega) hcur.size ?_; intro v1 w1 own1 grow1 _; rw [Nat.zero_add, List.nil_append] at own1; have hstep1 := (Below.refl _ _).grown grow1 (Nat.le_refl _) (fun k hk => by cases hk); have hnow : Below wq.heap.size wq w1 := hcur.grown grow1 hcur.size (fun k hk => by cases hk); have hsz1 := hnow.size)
                    | (have hcur := And.left ‹Below wq.heap.size wq _ ∧ (∀ b o, b < wq.heap.size → World.cell? _ ⟨b, o, none⟩ = wq.cell? ⟨b, o, none⟩)›; refine step_append_slc _ (by rfl) (.tmp 47) (.tmp 52) 32 (by rfl) wq.heap.size 37 i37 _ 3 24 Try.underlying32 hi hz0 hz1 hz2 rfl (by omega) _ k (ents (s.take k)) (by rfl) (by first | exact own1 | exact own1.alloc _) _ _ 1 e.cells (by rfl) (by first | exact new_ent w1 e _ | exact Slc.below (new_ent wq e _) ((below_drew2 _).trans (Below.mono hstep1 (by simp)))) (ent_one _) (by unfold maxLen; omega) (by omega) hcur.size ?_; intro v2 w2 own2 grow2 _; have hnow : Below wq.heap.size wq w2 := hcur.grown grow2 hcur.size (fun k hk => (own1.lt k hk).1))
                    | (have hcur := And.left ‹Below wq.heap.size wq _ ∧ (∀ b o, b < wq.heap.size → World.cell? _ ⟨b, o, none⟩ = wq.cell? ⟨b, o, none⟩)›; refine step_append_slc _ (by rfl) (.tmp 53) (.tmp 56) 32 (by rfl) wq.heap.size 37 i37 _ 3 24 Try.underlying32 hi hz0 hz1 hz2 rfl (by omega) _ (k + 1) (ents (s.take k) ++ e.cells) (by rfl) own2 _ _ (s.length - k) (ents (s.drop k)) (by rfl) ((SL3'.out _ (by first | exact Or.inl rfl | exact Or.inr (by omega)) _).below hcur) (ents_one _) (by unfold maxLen; omega) (by omega) hcur.size ?_; intro v3 w3 own3 grow3 _; have hnow : Below wq.heap.size wq w3 := hcur.grown grow3 hcur.size (fun k hk => (own2.lt k hk).1)))
                all_goals
                  clear own1 own2
                  go_wp2_with fail
                  go_roundw
                  case rel => exact ⟨i + 1, s.take k ++ [e] ++ s.drop k, by omega, by go_num, insown own3 hk hbqs hbs, fun h => absurd h (by simp), RI.out, by simp; omega, (HB.out.trans (hbq.mono hbs)).trans (Below.mono (by assumption) (Nat.le_trans hbs hbqs))⟩
                  case measure => simp [intOf]; omega
          · obtain rfl : k = s.length := by omega
            have hd : decide ((s.length : Int) < (s.length : Int)) = false := by simp
            have he1 : ((s.length : Int) == (s.length : Int)) = true := by simp
            go_wp2_with fail
            go_quiet (fail)
            have hbq := hbr.trans (Below.mono (below_drewN wr nq) hbrs)
            generalize wr.drewN nq = wx at hbq ⊢
            clear hbr hbrs
            go_wp2_with fail
            go_quiet (fail)
            have hbq2 := hbq.trans (Below.mono (below_drewN wx nq) hbq.size)
            clear hbq
            have hbq := hbq2
            clear hbq2 hd he1
            generalize wx.drewN nq = wq at hbq ⊢
            have c0 : wq.cell? ⟨b, off + i * 3, none⟩ = some (.int .u64 e.h) := (hbq.cell (p := ⟨b, off + i * 3, none⟩) hbw).trans C0.out
            have c1 : wq.cell? ⟨b, off + i * 3 + 1, none⟩ = some (.int .i64 e.v) := (hbq.cell (p := ⟨b, off + i * 3 + 1, none⟩) hbw).trans C1.out
            have c2 : wq.cell? ⟨b, off + i * 3 + 2, none⟩ = some (.int .i64 e.p) := (hbq.cell (p := ⟨b, off + i * 3 + 2, none⟩) hbw).trans C2.out
            have hbqs := hbq.size
            have hbwq : b < wq.heap.size := by omega
            have SOF : Hid (∀ W : World, Below wq.heap.size wq W → Below wq.heap.size wq W ∧ (∀ b o, b < wq.heap.size → W.cell? ⟨b, o, none⟩ = wq.cell? ⟨b, o, none⟩)) :=
              fun W h => ⟨h, fun b o hb => h.cell (p := ⟨b, o, none⟩) hb⟩
            have hri : Rise (s ++ [e]) := rise_last s e HR.out HL.out
            have RI := Lib.hid hri
            clear hri
            have SL1 : Hid (Slc wq wq.heap.size 3 (.slice (some ⟨g, 0, none⟩) s.length cap) s.length (ents s)) := by
              have h1 := slc_take (w := wq) (B := wq.heap.size) (g := g) (cap := cap) (k := s.length) (s := s) (by omega) (fun j u h => (hbq.cell (p := ⟨g, 0 + j, none⟩) hg2).trans (HG.out j u h)) (Nat.le_refl _)
              rw [List.take_length] at h1
              exact h1
            by_cases hck : cap = s.length
            · subst hck
              go_wp2_with fail
              go_region_held3 (fun W => Below wq.heap.size wq W ∧ (∀ b o, b < wq.heap.size → W.cell? ⟨b, o, none⟩ = wq.cell? ⟨b, o, none⟩))
                (first
                  | exact SOF.out _ (by go_grown)
                  | exact SOF.out _ (by assumption))
                (first
                  | (have hcur := And.left ‹Below wq.heap.size wq _ ∧ (∀ b o, b < wq.heap.size → World.cell? _ ⟨b, o, none⟩ = wq.cell? ⟨b, o, none⟩)›; refine step_append_slc _ (by rfl) (.const (.slice none 0 0)) (.tmp 46) 32 (by rfl) wq.heap.size 37 i37 _ 3 24 Try.underlying32 hi hz0 hz1 hz2 rfl (by omega) (.slice none 0 0) 0 [] (by rfl) (World.ownsRow_nil _ _ _ _) _ _ s.length (ents s) (by rfl) (SL1.out.below hcur) (ents_one _) (by unfold maxLen; omega) (by omega) hcur.size ?_; intro v1 w1 own1 grow1 _; rw [Nat.zero_add, List.nil_append] at own1; have hstep1 := (Below.refl _ _).grown grow1 (Nat.le_refl _) (fun k hk => by cases hk); have hnow : Below wq.heap.size wq w1 := hcur.grown grow1 hcur.size (fun k hk => by cases hk); have hsz1 := hnow.size)
                  | (have hcur := And.left ‹Below wq.heap.size wq _ ∧ (∀ b o, b < wq.heap.size → World.cell? _ ⟨b, o, none⟩ = wq.cell? ⟨b, o, none⟩)›; refine step_append_slc _ (by rfl) (.tmp 47) (.tmp 52) 32 (by rfl) wq.heap.size 37 i37 _ 3 24 Try.underlying32 hi hz0 hz1 hz2 rfl (by omega) _ s.length (ents s) (by rfl) (by first | exact own1 | exact own1.alloc _) _ _ 1 e.cells (by rfl) (by first | exact new_ent w1 e _ | exact Slc.below (new_ent wq e _) ((below_drew2 _).trans (Below.mono hstep1 (by simp)))) (ent_one _) (by unfold maxLen; omega) (by omega) hcur.size ?_; intro v2 w2 own2 grow2 _; have hnow : Below wq.heap.size wq w2 := hcur.grown grow2 hcur.size (fun k hk => (own1.lt k hk).1))
                  | (have hcur := And.left ‹Below wq.heap.size wq _ ∧ (∀ b o, b < wq.heap.size → World.cell? _ ⟨b, o, none⟩ = wq.cell? ⟨b, o, none⟩)›; refine step_append_slc _ (by rfl) (.tmp 53) (.tmp 56) 32 (by rfl) wq.heap.size 37 i37 _ 3 24 Try.underlying32 hi hz0 hz1 hz2 rfl (by omega) _ (s.length + 1) (ents s ++ e.cells) (by rfl) own2 _ _ (0) (ents []) (by rfl) ((slc_empty wq wq.heap.size _ _).below hcur) (ents_one _) (by unfold maxLen; omega) (by omega) hcur.size ?_; intro v3 w3 own3 grow3 _; have hnow : Below wq.heap.size wq w3 := hcur.grown grow3 hcur.size (fun k hk => (own2.lt k hk).1)))
              all_goals
                clear own1 own2
                go_wp2_with fail
                go_roundw
                case rel => exact ⟨i + 1, s ++ [e], by omega, by go_num, inslast own3 hbqs hbs, fun h => absurd h (by simp), RI.out, by simp; omega, (HB.out.trans (hbq.mono hbs)).trans (Below.mono (by assumption) (Nat.le_trans hbs hbqs))⟩
                case measure => simp [intOf]; omega
            · go_wp2_with fail
              go_region_held3 (fun W => Below wq.heap.size wq W ∧ (∀ b o, b < wq.heap.size → W.cell? ⟨b, o, none⟩ = wq.cell? ⟨b, o, none⟩))
                (first
                  | exact SOF.out _ (by go_grown)
                  | exact SOF.out _ (by assumption))
                (first
                  | (have hcur := And.left ‹Below wq.heap.size wq _ ∧ (∀ b o, b < wq.heap.size → World.cell? _ ⟨b, o, none⟩ = wq.cell? ⟨b, o, none⟩)›; refine step_append_slc _ (by rfl) (.const (.slice none 0 0)) (.tmp 46) 32 (by rfl) wq.heap.size 37 i37 _ 3 24 Try.underlying32 hi hz0 hz1 hz2 rfl (by omega) (.slice none 0 0) 0 [] (by rfl) (World.ownsRow_nil _ _ _ _) _ _ s.length (ents s) (by rfl) (SL1.out.below hcur) (ents_one _) (by unfold maxLen; omega) (by omega) hcur.size ?_; intro v1 w1 own1 grow1 _; rw [Nat.zero_add, List.nil_append] at own1; have hstep1 := (Below.refl _ _).grown grow1 (Nat.le_refl _) (fun k hk => by cases hk); have hnow : Below wq.heap.size wq w1 := hcur.grown grow1 hcur.size (fun k hk => by cases hk); have hsz1 := hnow.size)
                  | (have hcur := And.left ‹Below wq.heap.size wq _ ∧ (∀ b o, b < wq.heap.size → World.cell? _ ⟨b, o, none⟩ = wq.cell? ⟨b, o, none⟩)›; refine step_append_slc _ (by rfl) (.tmp 47) (.tmp 52) 32 (by rfl) wq.heap.size 37 i37 _ 3 24 Try.underlying32 hi hz0 hz1 hz2 rfl (by omega) _ s.length (ents s) (by rfl) (by first | exact own1 | exact own1.alloc _) _ _ 1 e.cells (by rfl) (by first | exact new_ent w1 e _ | exact Slc.below (new_ent wq e _) ((below_drew2 _).trans (Below.mono hstep1 (by simp)))) (ent_one _) (by unfold maxLen; omega) (by omega) hcur.size ?_; intro v2 w2 own2 grow2 _; have hnow : Below wq.heap.size wq w2 := hcur.grown grow2 hcur.size (fun k hk => (own1.lt k hk).1))
                  | (have hcur := And.left ‹Below wq.heap.size wq _ ∧ (∀ b o, b < wq.heap.size → World.cell? _ ⟨b, o, none⟩ = wq.cell? ⟨b, o, none⟩)›; refine step_append_slc _ (by rfl) (.tmp 53) (.tmp 56) 32 (by rfl) wq.heap.size 37 i37 _ 3 24 Try.underlying32 hi hz0 hz1 hz2 rfl (by omega) _ (s.length + 1) (ents s ++ e.cells) (by rfl) own2 _ _ (0) (ents []) (by rfl) ((slc_empty wq wq.heap.size _ _).below hcur) (ents_one _) (by unfold maxLen; omega) (by omega) hcur.size ?_; intro v3 w3 own3 grow3 _; have hnow : Below wq.heap.size wq w3 := hcur.grown grow3 hcur.size (fun k hk => (own2.lt k hk).1)))
              all_goals
                clear own1 own2
                go_wp2_with fail
                go_roundw
                case rel => exact ⟨i + 1, s ++ [e], by omega, by go_num, inslast own3 hbqs hbs, fun h => absurd h (by simp), RI.out, by simp; omega, (HB.out.trans (hbq.mono hbs)).trans (Below.mono (by assumption) (Nat.le_trans hbs hbqs))⟩
                case measure => simp [intOf]; omega
    · go_wp2
      go_ret
      exact ⟨_, s, rfl, Slc.of_own hown, hrise, by omega, hbel⟩
end Md
end Go.Proofs.Ytgfokkkkkeaheaa
