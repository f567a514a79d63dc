/- Plain laws of midpoints (no Go in sight). -/
import Derived.WalkKit
namespace Go.Proofs.Ytgfokkkkkeaheaa
namespace Md
open Go.RowKit

structure Ent where
  h : Int
  v : Int
  p : Int
structure Mid where
  e : Ent
  n : Int

def Ent.cells (e : Ent) : List Value := [.int .u64 e.h, .int .i64 e.v, .int .i64 e.p]
def Mid.cells (m : Mid) : List Value := [.int .u64 m.e.h, .int .i64 m.e.v, .int .i64 m.e.p, .int .i64 m.n]
def ents (l : List Ent) : List Value := l.flatMap Ent.cells
def mids (l : List Mid) : List Value := l.flatMap Mid.cells

theorem ents_len (l : List Ent) : (ents l).length = l.length * 3 := by
  induction l with
  | nil => rfl
  | cons e l ih =>
    have : ents (e :: l) = e.cells ++ ents l := rfl
    rw [this, List.length_append, ih, List.length_cons, show e.cells.length = 3 from rfl]
    omega
theorem mids_len (l : List Mid) : (mids l).length = l.length * 4 := by
  induction l with
  | nil => rfl
  | cons e l ih =>
    have : mids (e :: l) = e.cells ++ mids l := rfl
    rw [this, List.length_append, ih, List.length_cons, show e.cells.length = 4 from rfl]
    omega
theorem ents_get (l : List Ent) (k j : Nat) (hk : k < l.length) (hj : j < 3) : (ents l)[k * 3 + j]? = (l[k]'hk).cells[j]? := by
  induction l generalizing k with
  | nil => simp at hk
  | cons e l ih =>
    have h : ents (e :: l) = e.cells ++ ents l := rfl
    have hc : e.cells.length = 3 := rfl
    rw [h]
    cases k with
    | zero => rw [List.getElem?_append_left (by omega)]; simp
    | succ k =>
      rw [List.getElem?_append_right (by omega), show (k + 1) * 3 + j - e.cells.length = k * 3 + j by omega, ih k (by simpa using hk)]
      rfl
theorem mids_get (l : List Mid) (k j : Nat) (hk : k < l.length) (hj : j < 4) : (mids l)[k * 4 + j]? = (l[k]'hk).cells[j]? := by
  induction l generalizing k with
  | nil => simp at hk
  | cons e l ih =>
    have h : mids (e :: l) = e.cells ++ mids l := rfl
    have hc : e.cells.length = 4 := rfl
    rw [h]
    cases k with
    | zero => rw [List.getElem?_append_left (by omega)]; simp
    | succ k =>
      rw [List.getElem?_append_right (by omega), show (k + 1) * 4 + j - e.cells.length = k * 4 + j by omega, ih k (by simpa using hk)]
      rfl
theorem mids_snoc (l : List Mid) (m : Mid) : mids (l ++ [m]) = mids l ++ m.cells := by simp [mids]
theorem ents_snoc (l : List Ent) (m : Ent) : ents (l ++ [m]) = ents l ++ m.cells := by simp [ents]

/-- is one a midpoint, of n entries? -/
def mark (n i : Nat) : Bool := i % 8 == 0 || i + 1 == n
/-- the midpoints of the first k entries of l -/
def mkTo (l : List Ent) : Nat → List Mid
  | 0 => []
  | k + 1 => if h : k < l.length then (if mark l.length k then mkTo l k ++ [⟨l[k], k⟩] else mkTo l k) else mkTo l k
def mk (l : List Ent) : List Mid := mkTo l l.length

theorem mkTo_le (l : List Ent) (k : Nat) : (mkTo l k).length ≤ k := by
  induction k with
  | zero => simp [mkTo]
  | succ k ih =>
    unfold mkTo
    split
    · split
      · simp; omega
      · omega
    · omega
theorem mkTo_hit (l : List Ent) (k : Nat) (h : k < l.length) (hm : mark l.length k = true) : mkTo l (k + 1) = mkTo l k ++ [⟨l[k], k⟩] := by
  rw [mkTo, dif_pos h, if_pos hm]
theorem mkTo_miss (l : List Ent) (k : Nat) (h : k < l.length) (hm : mark l.length k = false) : mkTo l (k + 1) = mkTo l k := by
  rw [mkTo, dif_pos h, if_neg (by simp [hm])]

/-- the three cells of an entry in a row -/
theorem ent_cells {w : World} {b off : Nat} {l : List Ent} (h : ∀ (j : Nat) (u : Value), (ents l)[j]? = some u → w.cell? ⟨b, off + j, none⟩ = some u) (k : Nat) (hk : k < l.length) :
    w.cell? ⟨b, off + k * 3, none⟩ = some (.int .u64 l[k].h) ∧ w.cell? ⟨b, off + k * 3 + 1, none⟩ = some (.int .i64 l[k].v) ∧ w.cell? ⟨b, off + k * 3 + 2, none⟩ = some (.int .i64 l[k].p) :=
  ⟨h (k * 3) _ (ents_get l k 0 hk (by omega)), h (k * 3 + 1) _ (ents_get l k 1 hk (by omega)), h (k * 3 + 2) _ (ents_get l k 2 hk (by omega))⟩
/-- the four cells of a midpoint in a row -/
theorem mid_cells {w : World} {b off : Nat} {l : List Mid} (h : ∀ (j : Nat) (u : Value), (mids l)[j]? = some u → w.cell? ⟨b, off + j, none⟩ = some u) (k : Nat) (hk : k < l.length) :
    w.cell? ⟨b, off + k * 4, none⟩ = some (.int .u64 l[k].e.h) ∧ w.cell? ⟨b, off + k * 4 + 1, none⟩ = some (.int .i64 l[k].e.v) ∧ w.cell? ⟨b, off + k * 4 + 2, none⟩ = some (.int .i64 l[k].e.p) ∧ w.cell? ⟨b, off + k * 4 + 3, none⟩ = some (.int .i64 l[k].n) :=
  ⟨h (k * 4) _ (mids_get l k 0 hk (by omega)), h (k * 4 + 1) _ (mids_get l k 1 hk (by omega)), h (k * 4 + 2) _ (mids_get l k 2 hk (by omega)), h (k * 4 + 3) _ (mids_get l k 3 hk (by omega))⟩

/-- does an entry stand ahead of another one? -/
def less (a b : Ent) : Bool := if a.h ≠ b.h then decide (a.h < b.h) else if a.v ≠ b.v then decide (a.v < b.v) else decide (a.p < b.p)
/-- so many entries of the hash 0, by their versions -/
def rowL (n : Nat) : List Ent := (List.range n).map fun (i : Nat) => (⟨0, (i : Int), 0⟩ : Ent)
theorem rowL_len (n : Nat) : (rowL n).length = n := by simp [rowL]
theorem rowL_succ (n : Nat) : rowL (n + 1) = rowL n ++ [⟨0, (n : Int), 0⟩] := by simp [rowL, List.range_succ]

/-- from the first midpoint of l on: where the first one stands that is not ahead of e -/
def narGo (many : Int) (e : Ent) : List Mid → Int → Int × Int
  | [], lo => (lo, many)
  | x :: xs, lo => if less x.e e = true then narGo many e xs (min (min (max x.n 0) many) (many - 1) + 1) else (lo, min (max x.n 0) many)
def narrow (m : List Mid) (many : Int) (e : Ent) : Int × Int := ((narGo (max many 0) e m 0).1, max (narGo (max many 0) e m 0).1 (narGo (max many 0) e m 0).2)
theorem narGo_drop (many : Int) (e : Ent) (l : List Mid) (k : Nat) (hk : k < l.length) (lo : Int) :
    narGo many e (l.drop k) lo = if less l[k].e e = true then narGo many e (l.drop (k + 1)) (min (min (max l[k].n 0) many) (many - 1) + 1) else (lo, min (max l[k].n 0) many) := by
  rw [List.drop_eq_getElem_cons hk]; rfl

/-- the chapter's midpoints -/
def M4 : List Mid := [⟨⟨0, 0, 0⟩, 0⟩, ⟨⟨0, 8, 0⟩, 8⟩, ⟨⟨0, 16, 0⟩, 16⟩, ⟨⟨0, 19, 0⟩, 19⟩]
theorem mk20 : mk (rowL 20) = M4 := by rfl

theorem mkTo_count (l : List Ent) (k : Nat) (hk : k < l.length) : (mkTo l k).length = (k + 7) / 8 := by
  induction k with
  | zero => rfl
  | succ k ih =>
    have ih := ih (by omega)
    by_cases h8 : k % 8 = 0
    · rw [mkTo_hit l k (by omega) (by simp [mark, h8]), List.length_append, ih]
      simp
      omega
    · rw [mkTo_miss l k (by omega) (by simp [mark, h8]; omega), ih]
      omega
theorem mk_count (l : List Ent) (h : 0 < l.length) : (mk l).length = (l.length - 1 + 7) / 8 + 1 := by
  unfold mk
  obtain ⟨n, hn⟩ : ∃ n, l.length = n + 1 := ⟨l.length - 1, by omega⟩
  rw [hn]
  rw [mkTo_hit l n (by omega) (by simp [mark]; omega), List.length_append, mkTo_count l n (by omega)]
  simp
end Md
end Go.Proofs.Ytgfokkkkkeaheaa
