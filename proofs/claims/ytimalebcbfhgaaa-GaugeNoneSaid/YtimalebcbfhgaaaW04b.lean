/- The walks of weights: sums, ends, lists of numbers. -/
import Derived.Test.YtimalebcbfhgaaaW04a
import Derived.Test.YtimalebcbfhgaaaMem
import Derived.RegionTactic
import Derived.Deep.QuietTactic
import Derived.BigQuiet
import Derived.Deep.LoopGhost
namespace Go.Proofs.Ytimalebcbfhgaaa
namespace Wt
open Go.RowKit Fl
def fls (l : List Nat) : List Value := l.map (Value.float .f64)
def u64s (l : List Nat) : List Value := l.map fun (x : Nat) => Value.int .u64 (x : Int)
theorem info26 : (Try.prog.info? 26).map (fun i => (i.zero, i.size, i.bytes)) = some (some (.float .f64 0), 1, 8) := by kernel_rfl
theorem fls_len (l : List Nat) : (fls l).length = l.length := List.length_map _
theorem u64s_len (l : List Nat) : (u64s l).length = l.length := List.length_map _
theorem fls_get {l : List Nat} {k : Nat} (h : k < l.length) : (fls l)[k]? = some (.float .f64 l[k]) := by
  unfold fls; rw [List.getElem?_map, List.getElem?_eq_getElem h]; rfl
theorem u64s_get {l : List Nat} {k : Nat} (h : k < l.length) : (u64s l)[k]? = some (.int .u64 (l[k] : Int)) := by
  unfold u64s; rw [List.getElem?_map, List.getElem?_eq_getElem h]; rfl
theorem fls_snoc (l : List Nat) (f : Nat) : fls (l ++ [f]) = fls l ++ [.float .f64 f] := by unfold fls; rw [List.map_append]; rfl
theorem take_snoc {l : List Nat} {k : Nat} (h : k < l.length) : l.take (k + 1) = l.take k ++ [l[k]] := List.take_succ_eq_append_getElem h

/-- what a sum may be -/
def IsSum (l : List Nat) (x : Nat) : Prop := x < 2 * S ∧ (match fsum l with | some c => x = c | none => nan x = true)

theorem cut_nan (t : Nat) (x y : Nat) : nan (Question.cut (.nanBits .f64 x y) t) = true ∧ Question.cut (.nanBits .f64 x y) t < 2 * S := by
  have e : Question.cut (.nanBits .f64 x y) t = (t % 2) * 2 ^ 63 + 9218868437227405312 + 1 + (t / 2) % 4503599627370495 := rfl
  rw [e]
  unfold nan rung
  rw [decide_eq_true_eq]
  have hI : I = 9218868437227405312 := rfl
  have hS : S = 9223372036854775808 := rfl
  rw [hI, hS]
  generalize t / 2 = q
  rcases Nat.mod_two_eq_zero_or_one t with h | h <;> rw [h] <;> constructor <;> omega
theorem run_add {P : Program} (w : World) (t : TypeId) (x y : Nat) :
    ∃ n w2, (binOp .add t (.float .f64 x) (.float .f64 y)).run P w = .ok (.float .f64 n) w2 ∧ n < 2 * S ∧ (match Ieee.double.add x y with | some c => n = c | none => nan n = true) ∧ Below w.heap.size w w2 := by
  cases h : Ieee.double.add x y with
  | some c =>
    refine ⟨c, w, run_float_arith w .add t .f64 x y c h, ?_, rfl, Below.refl _ _⟩
    exact Ieee.Format.add_lt _ h
  | none =>
    have h2 : FloatKind.f64.format.add x y = none := h
    obtain ⟨q1, q2⟩ := cut_nan (w.tape w.drawn (.nanBits .f64 x y)) x y
    refine ⟨_, w.drew, ?_, q2, q1, Below.drew (Below.refl _ _)⟩
    simp [binOp, Op.floatArith, h2, Question.forced]

theorem sum_step {l : List Nat} {k x n : Nat} (hk : k < l.length) (hx : IsSum (l.take k) x) (h1 : n < 2 * S) (h2 : match Ieee.double.add x l[k] with | some c => n = c | none => nan n = true) : IsSum (l.take (k + 1)) n := by
  refine ⟨h1, ?_⟩
  rw [take_snoc hk, fsum_snoc]
  have hx2 := hx.2
  cases hc : fsum (l.take k) with
  | none =>
    rw [hc] at hx2
    have hx2 : nan x = true := hx2
    rw [add_nan_left _ hx2] at h2
    exact h2
  | some c =>
    rw [hc] at hx2
    have hx2 : x = c := hx2
    subst hx2
    exact h2

theorem sum_any (l : List Nat) (v : Value) (w : World) (h : Slc w w.heap.size 1 v l.length (fls l)) (hn : l.length ≤ 1000) :
    Calls Try.prog 20 #[v] w fun e w' => ∃ x, e = .returned (.float .f64 x) ∧ IsSum l x ∧ Below w.heap.size w w' := by
  obtain ⟨hlen, A, c, rfl, hcells⟩ := h
  have HC := Lib.hid hcells
  clear hcells
  go_enter Try.func20, Try.ntmps20
  go_wp2_with fail
  go_loopw [3, 8] (fun s i wr => ∃ (k x : Nat), k ≤ l.length ∧ i = .int .i64 k ∧ s = .float .f64 x ∧ IsSum (l.take k) x ∧ Below w.heap.size w wr) (fun _ i _ => l.length - (intOf i).toNat)
  case atStart => exact ⟨0, 0, Nat.zero_le _, rfl, rfl, ⟨by decide, rfl⟩, Below.refl _ _⟩
  case round =>
    obtain ⟨k, x, hk, rfl, rfl, hsum, hbel⟩ := hrel
    have hbs := hbel.size
    by_cases hlt : k < l.length
    · obtain ⟨b, off, rfl, hb, hcell⟩ := HC.out (by omega)
      have c0 : wr.cell? ⟨b, off + k, none⟩ = some (.float .f64 l[k]) := (hbel.cell (p := ⟨b, off + k, none⟩) hb).trans (hcell k _ (fls_get hlt))
      obtain ⟨n, w2, hrun, hn1, hn2, hb2⟩ := run_add (P := Try.prog) wr 26 x l[k]
      have HS := Lib.hid (sum_step hlt hsum hn1 hn2)
      generalize l[k] = f at c0 hrun
      clear hcell HC hsum hn1 hn2
      go_wp2_with fail
      go_roundw
      case rel => exact ⟨k + 1, n, by omega, by go_num, rfl, HS.out, hbel.trans (hb2.mono hbs)⟩
      case measure => simp [intOf]; omega
    · obtain rfl : k = l.length := by omega
      rw [List.take_length] at hsum
      have HS := Lib.hid hsum
      clear hsum
      go_wp2_with fail
      go_ret
      exact ⟨x, rfl, HS.out, hbel⟩
theorem ref_sum (l : List Nat) (v : Value) (w : World) (h : Slc w w.heap.size 1 v l.length (fls l)) (hn : l.length ≤ 1000) :
    Calls Try.prog 21 #[v] w fun e w' => ∃ x, e = .returned (.float .f64 x) ∧ IsSum l x ∧ Below w.heap.size w w' := by
  obtain ⟨hlen, A, c, rfl, hcells⟩ := h
  have HC := Lib.hid hcells
  clear hcells
  go_enter Try.func21, Try.ntmps21
  go_wp2_with fail
  go_loopw [3, 4] (fun s i wr => ∃ (k x : Nat), k ≤ l.length ∧ i = .int .i64 k ∧ s = .float .f64 x ∧ IsSum (l.take k) x ∧ Below w.heap.size w wr) (fun _ i _ => l.length - (intOf i).toNat)
  case atStart => exact ⟨0, 0, Nat.zero_le _, rfl, rfl, ⟨by decide, rfl⟩, Below.refl _ _⟩
  case round =>
    obtain ⟨k, x, hk, rfl, rfl, hsum, hbel⟩ := hrel
    have hbs := hbel.size
    by_cases hlt : k < l.length
    · obtain ⟨b, off, rfl, hb, hcell⟩ := HC.out (by omega)
      have c0 : wr.cell? ⟨b, off + k, none⟩ = some (.float .f64 l[k]) := (hbel.cell (p := ⟨b, off + k, none⟩) hb).trans (hcell k _ (fls_get hlt))
      obtain ⟨n, w2, hrun, hn1, hn2, hb2⟩ := run_add (P := Try.prog) wr 26 x l[k]
      have HS := Lib.hid (sum_step hlt hsum hn1 hn2)
      generalize l[k] = f at c0 hrun
      clear hcell HC hsum hn1 hn2
      go_wp2_with fail
      go_roundw
      case rel => exact ⟨k + 1, n, by omega, by go_num, rfl, HS.out, hbel.trans (hb2.mono hbs)⟩
      case measure => simp [intOf]; omega
    · obtain rfl : k = l.length := by omega
      rw [List.take_length] at hsum
      have HS := Lib.hid hsum
      clear hsum
      go_wp2_with fail
      go_ret
      exact ⟨x, rfl, HS.out, hbel⟩

theorem floats_any (l : List Nat) (v : Value) (w : World) (h : Slc w w.heap.size 1 v l.length (u64s l)) (hn : l.length ≤ 1000) :
    Calls Try.prog 15 #[v] w fun e w' => ∃ v', e = .returned v' ∧ w'.ownsRow w.heap.size 26 1 v' l.length (fls l) ∧ Below w.heap.size w w' := by
  obtain ⟨i26, hi, hz0, hz1, hz2⟩ := info_parts info26
  obtain ⟨hlen, A, c, rfl, hcells⟩ := h
  have HC := Lib.hid hcells
  clear hcells
  go_enter Try.func15, Try.ntmps15
  go_wp2_with fail
  go_loopw [3, 4] (fun o i wr => ∃ k : Nat, k ≤ l.length ∧ i = .int .i64 k ∧ wr.ownsRow w.heap.size 26 1 o (l.take k).length (fls (l.take k)) ∧ Below w.heap.size w wr) (fun _ i _ => l.length - (intOf i).toNat)
  case atStart => exact ⟨0, Nat.zero_le _, rfl, World.ownsRow_nil _ _ _ _, Below.refl _ _⟩
  case round =>
    obtain ⟨k, hk, rfl, hown, hbel⟩ := hrel
    have hbs := hbel.size
    by_cases hlt : k < l.length
    · obtain ⟨b, off, rfl, hb, hcell⟩ := HC.out (by omega)
      have c0 : wr.cell? ⟨b, off + k, none⟩ = some (.int .u64 (l[k] : Int)) := (hbel.cell (p := ⟨b, off + k, none⟩) hb).trans (hcell k _ (u64s_get hlt))
      have fin : ∀ (wa w1 : World) (v' : Value), w1.ownsRow w.heap.size 26 1 v' ((l.take k).length + 1) (fls (l.take k) ++ [.float .f64 l[k]]) → wa.grownBy w1 u3.ownBlock → Below wr.heap.size wr wa →
            w1.ownsRow w.heap.size 26 1 v' (l.take (k + 1)).length (fls (l.take (k + 1))) ∧ Below w.heap.size w w1 := by
        intro wa w1 v' ho hg hwa
        rw [take_snoc hlt, fls_snoc, List.length_append]
        exact ⟨ho, own_below hown hbel hwa hbs hg⟩
      have FIN := Lib.hid fin
      have hfb := frombits (l[k] : Int)
      rw [Int.toNat_natCast] at hfb
      generalize l[k] = f at c0 FIN hfb
      have hbw : b < wr.heap.size := by omega
      have hlk : (l.take k).length ≤ 1000 := by rw [List.length_take]; omega
      clear hcell HC fin
      go_wp2_with (at_builtin; refine wpList_append_own _ rfl (.tmp 11) (.tmp 17) 24 rfl w.heap.size 26 i26 _ 1 8 Try.underlying24 hi hz0 hz1 hz2 rfl (by decide) _ _ _ rfl (hown.alloc _) ⟨wr.heap.size, 0, none⟩ 1 1 [.float .f64 f] rfl rfl (by intro j u hj; match j, hj with | 0, hj => (cases hj; go_cell)) (by intro u hu; simp at hu; subst hu; rfl) (by unfold maxLen; omega) (by omega) (by simp; omega) ?_; intro v' w1 hown' hgrow _)
      obtain ⟨R1, R2⟩ := FIN.out _ _ _ (by assumption) (by assumption) (by go_grown)
      go_roundw
      case rel => exact ⟨k + 1, by omega, by go_num, R1, R2⟩
      case measure => simp [intOf]; omega
    · obtain rfl : k = l.length := by omega
      rw [List.take_length] at hown
      have HO := Lib.hid hown
      clear hown
      go_wp2_with fail
      go_ret
      exact ⟨_, rfl, HO.out, hbel⟩
end Wt
end Go.Proofs.Ytimalebcbfhgaaa
