/- The plain law of MidsNarrow: the program's Narrow and the reference's are one, of the midpoints of entries that rise. -/
import Derived.Test.YtgfokkkkkeaheaaPlain17b
namespace Go.Proofs.Ytgfokkkkkeaheaa
namespace Md
/-- the number of the first midpoint that is not ahead of e -/
def hiL (many : Int) (e : Ent) : List Mid → Int
  | [] => many
  | x :: xs => if less x.e e = true then hiL many e xs else x.n
theorem hiL_drop (many : Int) (e : Ent) (l : List Mid) (k : Nat) (hk : k < l.length) :
    hiL many e (l.drop k) = if less l[k].e e = true then hiL many e (l.drop (k + 1)) else l[k].n := by
  rw [List.drop_eq_getElem_cons hk]; rfl
def loStep (e : Ent) (z : Int) (y : Mid) : Int := if less y.e e = true then y.n + 1 else z
/-- one more than the number of the last of the first k midpoints that are ahead of e -/
def loTo (l : List Mid) (e : Ent) (k : Nat) : Int := (l.take k).foldl (loStep e) 0
theorem loTo_succ (l : List Mid) (e : Ent) (k : Nat) (hk : k < l.length) : loTo l e (k + 1) = if less l[k].e e = true then l[k].n + 1 else loTo l e k := by
  unfold loTo
  rw [List.take_succ_eq_append_getElem hk, List.foldl_append]
  rfl
theorem loTo_in (l : List Mid) (e : Ent) (B : Int) (hB : 0 ≤ B) (h : ∀ x ∈ l, 0 ≤ x.n ∧ x.n + 1 ≤ B) (k : Nat) (hk : k ≤ l.length) : 0 ≤ loTo l e k ∧ loTo l e k ≤ B := by
  induction k with
  | zero => unfold loTo; simp; exact hB
  | succ k ih =>
    have ih := ih (by omega)
    rw [loTo_succ l e k (by omega)]
    have := h l[k] (List.getElem_mem _)
    split <;> omega

theorem fold_stay (s : List Ent) (x : Ent) (hs : Rise s) (m : List Mid) (prev : Nat) (hg : Good s prev m) (hp : cnt s x ≤ prev) (z : Int) : m.foldl (loStep x) z = z := by
  induction m generalizing prev with
  | nil => rfl
  | cons y m ih =>
    obtain ⟨p, hpl, rfl, h1, h2, h3⟩ := hg
    have hf := cnt_first s x hs p hpl
    have hn : ¬ less s[p] x = true := by rw [hf]; simp; omega
    rw [List.foldl_cons, loStep, if_neg hn]
    exact ih (p + 1) h3 (by omega)
theorem narGo_is (s : List Ent) (x : Ent) (hs : Rise s) (m : List Mid) (prev : Nat) (hg : Good s prev m) (hp : prev ≤ cnt s x) :
    narGo s.length x m prev = (m.foldl (loStep x) prev, hiL s.length x m) := by
  have hc : cnt s x ≤ s.length := cntTo_le s x s.length
  induction m generalizing prev with
  | nil => rfl
  | cons y m ih =>
    obtain ⟨p, hpl, rfl, h1, h2, h3⟩ := hg
    have hf := cnt_first s x hs p hpl
    have hat : min (max (p : Int) 0) (s.length : Int) = (p : Int) := by omega
    have hat2 : min (p : Int) ((s.length : Int) - 1) + 1 = ((p + 1 : Nat) : Int) := by omega
    unfold narGo hiL
    rw [List.foldl_cons, loStep]
    simp only [hat, hat2]
    by_cases hlt : p < cnt s x
    · have hl : less s[p] x = true := by rw [hf]; simpa using hlt
      rw [if_pos hl, if_pos hl, if_pos hl, ih (p + 1) h3 (by omega)]
      rfl
    · have hl : ¬ less s[p] x = true := by rw [hf]; simpa using hlt
      rw [if_neg hl, if_neg hl, if_neg hl, fold_stay s x hs m (p + 1) h3 (by omega)]
theorem good_in (s : List Ent) (m : List Mid) (prev : Nat) (hg : Good s prev m) : ∀ x ∈ m, 0 ≤ x.n ∧ x.n + 1 ≤ (s.length : Int) := by
  induction m generalizing prev with
  | nil => simp
  | cons y m ih =>
    obtain ⟨p, hpl, rfl, h1, h2, h3⟩ := hg
    intro x hx
    rcases List.mem_cons.1 hx with rfl | hx
    · simp only; omega
    · exact ih (p + 1) h3 x hx
/-- THE LAW: one answer. -/
theorem narrow_is (s : List Ent) (x : Ent) (hs : Rise s) : narrow (mk s) s.length x = (loTo (mk s) x (mk s).length, hiL s.length x (mk s)) := by
  have h := narGo_is s x hs (mk s) 0 (mk_good s) (by omega)
  have hb := narGo_good s x hs (mk s) 0 (mk_good s) (by omega)
  have e : max (s.length : Int) 0 = (s.length : Int) := by omega
  have e2 : loTo (mk s) x (mk s).length = (mk s).foldl (loStep x) 0 := by unfold loTo; rw [List.take_length]
  simp only [Int.natCast_zero] at h hb
  unfold narrow
  rw [e, e2]
  rw [h] at hb ⊢
  simp only at hb ⊢
  congr 1
  omega
end Md
end Go.Proofs.Ytgfokkkkkeaheaa
