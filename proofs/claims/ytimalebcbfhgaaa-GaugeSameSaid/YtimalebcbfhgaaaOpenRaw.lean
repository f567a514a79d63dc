/- A Raw as an argument: opened. -/
import Derived.Test.YtimalebcbfhgaaaOpen04
namespace Go.Proofs.Ytimalebcbfhgaaa
open Go.ChangeShapes Go.WideShapes Go.ChangeAt Go.RowKit Go.Deep Go.Joins
namespace Wt
open Fl
theorem cells54 : Try.prog.cellsOf 54 = 5 := by kernel_rfl
theorem cells3 : Try.prog.cellsOf 3 = 1 := by kernel_rfl
section
variable {H : Type} {enc : TypeId × Value → H} {w : World} {base : Nat} {spare : Nat → Bool} {held : Bool}
theorem open_raw {r : Reach} {b0 : Nat} {v : Value} {d : DataW H} {p : List MemPlace} (hv : Value.okWide Try.prog w r b0 54 v) (h : DataW.Trod enc Try.prog w base spare held 54 v d p) :
    ∃ (x y : Int) (s a b : Nat), v = .agg #[.int .i64 x, .int .i64 y, .int .u64 (s : Int), .int .u64 (a : Int), .int .u64 (b : Int)] ∧ s < 2 * S ∧ a < 2 * S ∧ b < 2 * S := by
  obtain ⟨cs, rfl, hsz⟩ := okWide_struct Try.underlying54 hv
  obtain ⟨l⟩ := cs
  match l, hsz.trans cells54 with
  | [c0, c1, c2, c3, c4], _ =>
    obtain ⟨fuel, hf⟩ := h
    obtain ⟨xs, n, _, hx, _, hlen, hg⟩ := DataW.trod_struct Try.underlying54 hf
    match xs, hlen with
    | [y0, y1, y2, y3, y4], _ =>
      have g0 : DataW.trod enc Try.prog w base spare held n 3 (([c0, c1, c2, c3, c4].drop 0).take (Try.prog.cellsOf 3)) = some y0 := hg 0 _ rfl
      have g1 : DataW.trod enc Try.prog w base spare held n 3 (([c0, c1, c2, c3, c4].drop 1).take (Try.prog.cellsOf 3)) = some y1 := hg 1 _ rfl
      have g2 : DataW.trod enc Try.prog w base spare held n 31 (([c0, c1, c2, c3, c4].drop 2).take (Try.prog.cellsOf 31)) = some y2 := hg 2 _ rfl
      have g3 : DataW.trod enc Try.prog w base spare held n 31 (([c0, c1, c2, c3, c4].drop 3).take (Try.prog.cellsOf 31)) = some y3 := hg 3 _ rfl
      have g4 : DataW.trod enc Try.prog w base spare held n 31 (([c0, c1, c2, c3, c4].drop 4).take (Try.prog.cellsOf 31)) = some y4 := hg 4 _ rfl
      rw [cells3] at g0 g1
      rw [cells31] at g2 g3 g4
      obtain ⟨n0, q0, _, _⟩ := DataW.trod_int Try.underlying3 g0
      obtain ⟨n1, q1, _, _⟩ := DataW.trod_int Try.underlying3 g1
      obtain ⟨n2, q2, _, w2⟩ := DataW.trod_int Try.underlying31 g2
      obtain ⟨n3, q3, _, w3⟩ := DataW.trod_int Try.underlying31 g3
      obtain ⟨n4, q4, _, w4⟩ := DataW.trod_int Try.underlying31 g4
      simp at q0 q1 q2 q3 q4
      obtain ⟨m2, rfl, k2⟩ := u64_nat w2
      obtain ⟨m3, rfl, k3⟩ := u64_nat w3
      obtain ⟨m4, rfl, k4⟩ := u64_nat w4
      exact ⟨n0, n1, m2, m3, m4, by rw [q0, q1, q2, q3, q4], k2, k3, k4⟩
end
end Wt
end Go.Proofs.Ytimalebcbfhgaaa
