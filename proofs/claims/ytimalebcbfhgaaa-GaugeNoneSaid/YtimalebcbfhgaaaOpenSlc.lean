/- A slice argument of structs, opened into a list. Over any program. -/
import Derived.Test.YtimalebcbfhgaaaMem
import Derived.Test.YtimalebcbfhgaaaOpen
import Derived.Deep.Slices
namespace Go.Proofs.Ytimalebcbfhgaaa
open Go.ChangeShapes Go.WideShapes Go.ChangeAt Go.RowKit Go.Deep

theorem add_none (b off j : Nat) : (⟨b, off, none⟩ : Addr).add j = ⟨b, off + j, none⟩ := by
  unfold Addr.add
  split
  · next h => subst h; rfl
  · rfl

theorem flat_get {α : Type} (cells : α → List Value) (sz : Nat) (hsz : ∀ a, (cells a).length = sz) :
    ∀ (l : List α) (i j : Nat), j < sz → (l.flatMap cells)[i * sz + j]? = (l[i]?).bind fun a => (cells a)[j]? := by
  intro l
  induction l with
  | nil => intro i j _; simp
  | cons a l ih =>
    intro i j hj
    rw [List.flatMap_cons]
    cases i with
    | zero => rw [List.getElem?_append_left (by rw [hsz]; omega)]; simp
    | succ i =>
      have e : (i + 1) * sz + j = sz + (i * sz + j) := by rw [Nat.succ_mul]; omega
      rw [e, List.getElem?_append_right (by rw [hsz]; omega), hsz, Nat.add_sub_cancel_left, ih i j hj]
      simp

theorem flat_len {α : Type} (cells : α → List Value) (sz : Nat) (hsz : ∀ a, (cells a).length = sz) : ∀ l : List α, (l.flatMap cells).length = l.length * sz := by
  intro l
  induction l with
  | nil => simp
  | cons a l ih => rw [List.flatMap_cons, List.length_append, ih, hsz, List.length_cons, Nat.succ_mul]; omega

theorem exists_list {α : Type} {p : Nat → α → Prop} : ∀ (n : Nat), (∀ i, i < n → ∃ a, p i a) → ∃ l : List α, l.length = n ∧ ∀ i a, l[i]? = some a → p i a := by
  intro n
  induction n with
  | zero => intro _; exact ⟨[], rfl, fun i a h => by simp at h⟩
  | succ n ih =>
    intro h
    obtain ⟨l, hl, hp⟩ := ih fun i hi => h i (by omega)
    obtain ⟨a, ha⟩ := h n (by omega)
    refine ⟨l ++ [a], by simp [hl], fun i b hb => ?_⟩
    by_cases hi : i < l.length
    · rw [List.getElem?_append_left hi] at hb
      exact hp i b hb
    · rw [List.getElem?_append_right (by omega)] at hb
      have : i - l.length = 0 := by
        have := (List.getElem?_eq_some_iff.1 hb).1
        simp at this
        omega
      rw [this] at hb
      simp at hb
      subst hb
      have : i = n := by omega
      subst this
      exact ha

section
variable {H : Type} {enc : TypeId × Value → H} {P : Program} {w : World} {base : Nat} {spare : Nat → Bool} {held : Bool}

theorem open_slc {α : Type} (cells : α → List Value) (good : α → Prop) (sz : Nat) (hsz : ∀ a, (cells a).length = sz) (h0 : 0 < sz) {r : Reach} {b0 : Nat} {t e : TypeId} {v : Value} {d : DataW H} {p : List MemPlace}
    (ht : P.underlying t = some (.slice e)) (hC : P.cellsOf e = sz)
    (hel : ∀ (fuel : Nat) (cs : List Value) (x : DataW H × List MemPlace), DataW.trod enc P w base spare held fuel e cs = some x → ∃ a, cs = cells a ∧ good a)
    (hv : Value.okWide P w r b0 t v) (h : DataW.Trod enc P w base spare held t v d p) :
    ∃ l : List α, Slc w w.heap.size sz v l.length (l.flatMap cells) ∧ (∀ a ∈ l, good a) := by
  obtain ⟨A, len, cap, rfl⟩ := okWide_slice ht hv
  obtain ⟨fuel, hf⟩ := h
  rcases open_slice ht hf with ⟨hcs, _⟩ | ⟨a, len', cap', m, n, D, Pl, hcs, _, hl, hm, hmm, _, hi⟩
  · simp [Value.cells] at hcs
    obtain ⟨rfl, rfl, rfl⟩ := hcs
    exact ⟨[], ⟨by simp, _, _, rfl, fun h => absurd h (by simp)⟩, by simp⟩
  · simp [Value.cells] at hcs
    obtain ⟨rfl, rfl, rfl⟩ := hcs
    have hlm : len ≤ m := by rw [hmm]; split <;> omega
    obtain ⟨l, hll, hp⟩ := exists_list (p := fun i x => (∀ j, j < sz → w.cell? ((a.add (i * sz)).add j) = (cells x)[j]?) ∧ good x) len (fun i hil => by
      obtain ⟨cs', h1, h2⟩ := hi i (by omega)
      obtain ⟨x, hx, hg⟩ := hel n cs' _ h2
      rw [hC] at h1
      obtain ⟨_, _, h3⟩ := World.cells?_some h1
      exact ⟨x, fun j hj => by rw [h3 j hj, hx], hg⟩)
    have good' : ∀ x ∈ l, good x := by
      intro x hx
      obtain ⟨i, hi, rfl⟩ := List.getElem_of_mem hx
      exact (hp i _ (List.getElem?_eq_getElem hi)).2
    refine ⟨l, ⟨flat_len cells sz hsz l, _, _, by rw [hll], fun hn => ?_⟩, good'⟩
    obtain ⟨b, off, spot⟩ := a
    have hx0 := (hp 0 _ (List.getElem?_eq_getElem hn)).1 0 h0
    have hs : (cells l[0])[0]? = some ((cells l[0])[0]'(by rw [hsz]; omega)) := List.getElem?_eq_getElem _
    rw [hs] at hx0
    have hspot : spot = none := by simpa [Addr.add] using World.cell?_spot hx0
    subst hspot
    refine ⟨b, off, rfl, ?_, ?_⟩
    · have := World.block_lt_of_cell? w _ hx0
      simpa [Addr.add] using this
    · intro j u hj
      have hjl : j < l.length * sz := by
        have := (List.getElem?_eq_some_iff.1 hj).1
        rw [flat_len cells sz hsz] at this
        exact this
      have hd : j / sz < l.length := (Nat.div_lt_iff_lt_mul h0).2 hjl
      have hmod : j % sz < sz := Nat.mod_lt _ h0
      have hj2 : j = j / sz * sz + j % sz := by
        have := Nat.div_add_mod j sz
        rw [Nat.mul_comm] at this
        omega
      have hc := (hp (j / sz) _ (List.getElem?_eq_getElem hd)).1 (j % sz) hmod
      rw [add_none, add_none, Nat.add_assoc, ← hj2] at hc
      rw [hj2, flat_get cells sz hsz l _ _ hmod, List.getElem?_eq_getElem hd] at hj
      rw [hc]
      exact hj
end
end Go.Proofs.Ytimalebcbfhgaaa
