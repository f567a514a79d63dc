/- Words for memory that the walks use: a slice that reads as a list of cells. Over any program. -/
import Derived.WalkKit
import Derived.Below
import Derived.Laws.OwnMore
import Derived.Deep.AppendLies
import Derived.Laws.IdiomStrings
namespace Go.Proofs.Ytgfokkkkkeaheaa
open Go.RowKit

/-- The slice value v, of n elements of sz cells each, reads as the cells xs, that lie below block B. -/
def Slc (w : World) (B sz : Nat) (v : Value) (n : Nat) (xs : List Value) : Prop :=
  xs.length = n * sz ∧ ∃ A c, v = .slice A n c ∧ (0 < n → ∃ b off, A = some ⟨b, off, none⟩ ∧ b < B ∧ ∀ j u, xs[j]? = some u → w.cell? ⟨b, off + j, none⟩ = some u)

section
variable {w w' : World} {B B' sz n : Nat} {v : Value} {xs : List Value}
theorem Slc.keep (h : Slc w B sz v n xs) (hk : ∀ b o, b < B → w'.cell? ⟨b, o, none⟩ = w.cell? ⟨b, o, none⟩) : Slc w' B sz v n xs := by
  obtain ⟨h1, A, c, h2, h3⟩ := h
  refine ⟨h1, A, c, h2, fun hn => ?_⟩
  obtain ⟨b, off, h4, h5, h6⟩ := h3 hn
  exact ⟨b, off, h4, h5, fun j u hj => (hk _ _ h5).trans (h6 j u hj)⟩
theorem Slc.below (h : Slc w B sz v n xs) (hb : Below B w w') : Slc w' B sz v n xs :=
  h.keep fun b o hlt => hb.cell (p := ⟨b, o, none⟩) hlt
theorem Slc.more (h : Slc w B sz v n xs) (hB : B ≤ B') : Slc w B' sz v n xs := by
  obtain ⟨h1, A, c, h2, h3⟩ := h
  refine ⟨h1, A, c, h2, fun hn => ?_⟩
  obtain ⟨b, off, h4, h5, h6⟩ := h3 hn
  exact ⟨b, off, h4, by omega, h6⟩
theorem Slc.of_own {base : Nat} {e : TypeId} (h : w.ownsRow base e sz v n xs) : Slc w w.heap.size sz v n xs := by
  refine ⟨h.1, ?_⟩
  rcases h.2 with ⟨rfl, rfl⟩ | ⟨g, cap, cur, rfl, hb, hg, hn, hm, hs, ht⟩
  · exact ⟨none, 0, rfl, fun h => absurd h (by omega)⟩
  · refine ⟨_, _, rfl, fun hn => ⟨g, 0, rfl, ?_, ?_⟩⟩
    · rcases Nat.lt_or_ge g w.heap.size with h' | h'
      · exact h'
      · rw [Array.getElem?_eq_none h'] at hg; cases hg
    · intro j u hj
      have hjl : j < n * sz := by
        have := (List.getElem?_eq_some_iff.1 hj).1
        have := h.1
        omega
      rw [Nat.zero_add, h.cellAt j hjl, hj]
theorem bcell {W w1 : World} {B : Nat} (hb : Below B W w1) : (∀ b o, b < B → w1.cell? ⟨b, o, none⟩ = W.cell? ⟨b, o, none⟩) ∧ (∀ b o, b < B → w1.frozen? ⟨b, o, none⟩ = W.frozen? ⟨b, o, none⟩) :=
  ⟨fun b o h => hb.cell (p := ⟨b, o, none⟩) h, fun b o h => hb.frozen (p := ⟨b, o, none⟩) h⟩

/-- behind an append onto a row of the call's own: old memory stays -/
theorem own_below {w0 wr wa w1 : World} {B : Nat} {e : TypeId} {sz n : Nat} {v : Value} {xs : List Value} (h : wr.ownsRow B e sz v n xs) (hb : Below B w0 wr) (ha : Below wr.heap.size wr wa)
    (hB : B ≤ wr.heap.size) (hg : wa.grownBy w1 v.ownBlock) : Below B w0 w1 :=
  (hb.trans (ha.mono hB)).grown hg (Nat.le_trans hB ha.size) fun k hk => (h.lt k hk).1

/-- max and min of two integers as one value: the walk does not part on them. -/
@[go_sem ↓] theorem run_max2 {P : Program} (w : World) (ts : Array TypeId) (t : TypeId) (k k' : IntKind) (x y : Int) : (Builtin.max_ ts t #[.int k x, .int k' y]).run P w = .ok (.int k (max x y)) w := by
  rw [run_max_int2, show (if y > x then y else x) = max x y by omega]
@[go_sem ↓] theorem run_min2 {P : Program} (w : World) (ts : Array TypeId) (t : TypeId) (k k' : IntKind) (x y : Int) : (Builtin.min_ ts t #[.int k x, .int k' y]).run P w = .ok (.int k (min x y)) w := by
  rw [run_min_int2, show (if y < x then y else x) = min x y by omega]

/-- a new row of the call's own -/
theorem Slc.new {sz n c : Nat} {xs : List Value} (w : World) (t : TypeId) (h : xs.length = n * sz) : Slc (w.alloc (.cells xs.toArray t)).drew (w.heap.size + 1) sz (.slice (some ⟨w.heap.size, 0, none⟩) n c) n xs := by
  refine ⟨h, _, _, rfl, fun _ => ⟨_, _, rfl, by omega, fun j u hj => ?_⟩⟩
  show (w.alloc (.cells xs.toArray t)).cell? _ = _
  rw [Nat.zero_add, World.cell?_alloc_mark]
  simpa using hj
end
end Go.Proofs.Ytgfokkkkkeaheaa
