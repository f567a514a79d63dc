/- The walks of gauge: told. -/
import Derived.Test.YtimalebcbfhgaaaW04f
import Derived.Test.YtimalebcbfhgaaaMem3
namespace Go.Proofs.Ytimalebcbfhgaaa
namespace Wt
open Go.RowKit Fl
/-- an event of a weight, at a version -/
def tcell (p : Nat × Nat) : List Value := [.string ⟨#[115]⟩, .int .i64 (p.2 : Int), .string ⟨#[116]⟩, .string ⟨#[]⟩, .float .f64 p.1]
def tcs (l : List (Nat × Nat)) : List Value := l.flatMap tcell
theorem tcs_len (l : List (Nat × Nat)) : (tcs l).length = l.length * 5 := by
  unfold tcs
  induction l with
  | nil => rfl
  | cons a l ih => rw [List.flatMap_cons, List.length_append, ih, List.length_cons, Nat.succ_mul, Nat.add_comm]; rfl
theorem tcs_append (a b : List (Nat × Nat)) : tcs (a ++ b) = tcs a ++ tcs b := by unfold tcs; rw [List.flatMap_append]
theorem info50 : (Try.prog.info? 50).map (fun i => (i.zero, i.size, i.bytes)) = some (some (.agg #[.string ⟨#[]⟩, .int .i64 0, .string ⟨#[]⟩, .string ⟨#[]⟩, .float .f64 0]), 5, 64) := by kernel_rfl
theorem zip_snoc {l : List Nat} {k : Nat} (h : k < l.length) : (l.take (k + 1)).zipIdx = (l.take k).zipIdx ++ [(l[k], k)] := by
  rw [take_snoc h, List.zipIdx_append, List.length_take, Nat.min_eq_left (by omega)]
  simp
theorem told_any (l : List Nat) (v : Value) (w : World) (h : Slc w w.heap.size 1 v l.length (u64s l)) (hn : l.length ≤ 1000) :
    Calls Try.prog 33 #[v] w fun e w' => ∃ v', e = .returned v' ∧ w'.ownsRow w.heap.size 50 5 v' l.zipIdx.length (tcs l.zipIdx) ∧ Below w.heap.size w w' := by
  obtain ⟨i50, hi, hz0, hz1, hz2⟩ := info_parts info50
  obtain ⟨hlen, A, c, rfl, hcells⟩ := h
  have HC := Lib.hid hcells
  clear hcells
  go_enter Try.func33, Try.ntmps33
  go_wp2_with fail
  go_loopw [3, 4] (fun o i wr => ∃ k : Nat, k ≤ l.length ∧ i = .int .i64 k ∧ wr.ownsRow w.heap.size 50 5 o (l.take k).zipIdx.length (tcs (l.take k).zipIdx) ∧ Below w.heap.size w wr) (fun _ i _ => l.length - (intOf i).toNat)
  case atStart => exact ⟨0, Nat.zero_le _, rfl, World.ownsRow_nil _ _ _ _, Below.refl _ _⟩
  case round =>
    obtain ⟨k, hk, rfl, hown, hbel⟩ := hrel
    have hbs := hbel.size
    by_cases hlt : k < l.length
    · obtain ⟨b, off, rfl, hb, hcell⟩ := HC.out (by omega)
      have c0 : wr.cell? ⟨b, off + k, none⟩ = some (.int .u64 (l[k] : Int)) := (hbel.cell (p := ⟨b, off + k, none⟩) hb).trans (hcell k _ (u64s_get hlt))
      have fin : ∀ (wa w1 : World) (v' : Value), w1.ownsRow w.heap.size 50 5 v' ((l.take k).zipIdx.length + 1) (tcs (l.take k).zipIdx ++ tcell (l[k], k)) → wa.grownBy w1 u3.ownBlock → Below wr.heap.size wr wa →
            w1.ownsRow w.heap.size 50 5 v' (l.take (k + 1)).zipIdx.length (tcs (l.take (k + 1)).zipIdx) ∧ Below w.heap.size w w1 := by
        intro wa w1 v' ho hg hwa
        rw [zip_snoc hlt, tcs_append, List.length_append]
        refine ⟨?_, own_below hown hbel hwa hbs hg⟩
        have e : tcs [(l[k], k)] = tcell (l[k], k) := by unfold tcs; simp
        rw [e]
        exact ho
      have FIN := Lib.hid fin
      have hfb := frombits (l[k] : Int)
      rw [Int.toNat_natCast] at hfb
      generalize l[k] = f at c0 FIN hfb
      have hbw : b < wr.heap.size := by omega
      have hlk : (l.take k).zipIdx.length ≤ 1000 := by rw [List.length_zipIdx, List.length_take]; omega
      clear hcell HC fin
      go_wp2_with (at_builtin; refine wpList_append_own _ rfl (.tmp 11) (.tmp 20) 39 rfl w.heap.size 50 i50 _ 5 64 Try.underlying39 hi hz0 hz1 hz2 rfl (by decide) _ _ _ rfl (hown.alloc _) ⟨wr.heap.size, 0, none⟩ 1 1 (tcell (f, k)) rfl rfl (by intro j u hj; match j, hj with | 0, hj => (cases hj; go_cell) | 1, hj => (cases hj; go_cell) | 2, hj => (cases hj; go_cell) | 3, hj => (cases hj; go_cell) | 4, hj => (cases hj; go_cell)) (by intro u hu; simp [tcell] at hu; rcases hu with rfl | rfl | rfl | rfl | rfl <;> rfl) (by unfold maxLen; omega) (by omega) (by simp; omega) ?_; intro v' w1 hown' hgrow _)
      obtain ⟨R1, R2⟩ := FIN.out _ _ _ (by assumption) (by assumption) (by go_grown)
      go_roundw
      case rel => exact ⟨k + 1, by omega, by go_num, R1, R2⟩
      case measure => simp [intOf]; omega
    · obtain rfl : k = l.length := by omega
      rw [List.take_length] at hown
      have HO := Lib.hid hown
      clear hown
      go_wp2_with fail
      go_ret
      exact ⟨_, rfl, HO.out, hbel⟩
end Wt
end Go.Proofs.Ytimalebcbfhgaaa
