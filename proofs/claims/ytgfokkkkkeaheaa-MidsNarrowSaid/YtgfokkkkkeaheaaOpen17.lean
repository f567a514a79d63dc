/- Entries and midpoints as arguments: opened. -/
import Derived.Test.YtgfokkkkkeaheaaRows
import Derived.Test.YtgfokkkkkeaheaaOpenSlc
import Derived.Test.YtgfokkkkkeaheaaPlain17
namespace Go.Proofs.Ytgfokkkkkeaheaa
open Go.ChangeShapes Go.WideShapes Go.ChangeAt Go.RowKit Go.Deep Go.Joins
namespace Md
theorem cells22 : Try.prog.cellsOf 22 = 1 := by kernel_rfl
theorem cells3 : Try.prog.cellsOf 3 = 1 := by kernel_rfl
theorem cells37 : Try.prog.cellsOf 37 = 3 := by kernel_rfl
theorem cells58 : Try.prog.cellsOf 58 = 4 := by kernel_rfl
section
variable {H : Type} {enc : TypeId × Value → H} {w : World} {base : Nat} {spare : Nat → Bool} {held : Bool}

theorem ent_of_trod (fuel : Nat) (cs : List Value) (x : DataW H × List MemPlace) (h : DataW.trod enc Try.prog w base spare held fuel 37 cs = some x) : ∃ e : Ent, cs = e.cells ∧ True := by
  obtain ⟨xs, n, _, _, hl, hlen, hf⟩ := DataW.trod_struct Try.underlying37 h
  rw [cells37] at hl
  match cs, hl with
  | [c0, c1, c2], _ =>
    have h0 : DataW.trod enc Try.prog w base spare held n 22 (([c0, c1, c2].drop 0).take (Try.prog.cellsOf 22)) = xs[0]? := hf 0 _ rfl
    have h1 : DataW.trod enc Try.prog w base spare held n 3 (([c0, c1, c2].drop 1).take (Try.prog.cellsOf 3)) = xs[1]? := hf 1 _ rfl
    have h2 : DataW.trod enc Try.prog w base spare held n 3 (([c0, c1, c2].drop 2).take (Try.prog.cellsOf 3)) = xs[2]? := hf 2 _ rfl
    have e0 : xs[0]? = some (xs[0]'(by simp at hlen; omega)) := List.getElem?_eq_getElem _
    have e1 : xs[1]? = some (xs[1]'(by simp at hlen; omega)) := List.getElem?_eq_getElem _
    have e2 : xs[2]? = some (xs[2]'(by simp at hlen; omega)) := List.getElem?_eq_getElem _
    rw [e0] at h0
    rw [e1] at h1
    rw [e2] at h2
    rw [cells22] at h0
    rw [cells3] at h1 h2
    obtain ⟨n0, q0, _, _⟩ := DataW.trod_int Try.underlying22 h0
    obtain ⟨n1, q1, _, _⟩ := DataW.trod_int Try.underlying3 h1
    obtain ⟨n2, q2, _, _⟩ := DataW.trod_int Try.underlying3 h2
    simp at q0 q1 q2
    exact ⟨⟨n0, n1, n2⟩, by rw [q0, q1, q2]; rfl, trivial⟩

theorem mid_of_trod (fuel : Nat) (cs : List Value) (x : DataW H × List MemPlace) (h : DataW.trod enc Try.prog w base spare held fuel 58 cs = some x) : ∃ m : Mid, cs = m.cells ∧ True := by
  obtain ⟨xs, n, _, _, hl, hlen, hf⟩ := DataW.trod_struct Try.underlying58 h
  rw [cells58] at hl
  match cs, hl with
  | [c0, c1, c2, c3], _ =>
    have h0 : DataW.trod enc Try.prog w base spare held n 37 (([c0, c1, c2, c3].drop 0).take (Try.prog.cellsOf 37)) = xs[0]? := hf 0 _ rfl
    have h1 : DataW.trod enc Try.prog w base spare held n 3 (([c0, c1, c2, c3].drop 3).take (Try.prog.cellsOf 3)) = xs[1]? := hf 1 _ rfl
    have e0 : xs[0]? = some (xs[0]'(by simp at hlen; omega)) := List.getElem?_eq_getElem _
    have e1 : xs[1]? = some (xs[1]'(by simp at hlen; omega)) := List.getElem?_eq_getElem _
    rw [e0] at h0
    rw [e1] at h1
    rw [cells37] at h0
    rw [cells3] at h1
    obtain ⟨e, q0, _⟩ := ent_of_trod _ _ _ h0
    obtain ⟨n1, q1, _, _⟩ := DataW.trod_int Try.underlying3 h1
    simp [Ent.cells] at q0 q1
    obtain ⟨q0, q2, q3⟩ := q0
    exact ⟨⟨e, n1⟩, by rw [q0, q1, q2, q3]; rfl, trivial⟩

theorem open_ents {r : Reach} {b0 : Nat} {v : Value} {d : DataW H} {p : List MemPlace} (hv : Value.okWide Try.prog w r b0 32 v) (h : DataW.Trod enc Try.prog w base spare held 32 v d p) :
    ∃ l : List Ent, Slc w w.heap.size 3 v l.length (ents l) := by
  obtain ⟨l, hs, _⟩ := open_slc Ent.cells (fun _ => True) 3 (fun _ => rfl) (by omega) Try.underlying32 cells37 ent_of_trod hv h
  exact ⟨l, hs⟩
theorem open_mids {r : Reach} {b0 : Nat} {v : Value} {d : DataW H} {p : List MemPlace} (hv : Value.okWide Try.prog w r b0 34 v) (h : DataW.Trod enc Try.prog w base spare held 34 v d p) :
    ∃ l : List Mid, Slc w w.heap.size 4 v l.length (mids l) := by
  obtain ⟨l, hs, _⟩ := open_slc Mid.cells (fun _ => True) 4 (fun _ => rfl) (by omega) Try.underlying34 cells58 mid_of_trod hv h
  exact ⟨l, hs⟩
theorem open_ent {r : Reach} {b0 : Nat} {v : Value} {d : DataW H} {p : List MemPlace} (hv : Value.okWide Try.prog w r b0 37 v) (h : DataW.Trod enc Try.prog w base spare held 37 v d p) :
    ∃ a b c : Int, v = .agg #[.int .u64 a, .int .i64 b, .int .i64 c] := by
  obtain ⟨cs, rfl, hsz⟩ := okWide_struct Try.underlying37 hv
  obtain ⟨fuel, hf⟩ := h
  obtain ⟨e, he, _⟩ := ent_of_trod _ _ _ hf
  obtain ⟨l⟩ := cs
  simp [Value.cells] at he
  exact ⟨e.h, e.v, e.p, by rw [he]; rfl⟩
end
end Md
end Go.Proofs.Ytgfokkkkkeaheaa
