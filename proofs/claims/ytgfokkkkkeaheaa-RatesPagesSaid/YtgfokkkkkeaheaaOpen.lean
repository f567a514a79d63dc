/- How arguments of the kinds that the laws take are opened: over any program. -/
import Derived.WalkKit
import Derived.ProofKit
import Derived.OpenShut
import Derived.Lib.SmallJoins
import Derived.Laws.IdiomStrings
import Derived.Below
namespace Go.Proofs.Ytgfokkkkkeaheaa
open Go.ChangeShapes Go.WideShapes Go.ChangeAt Go.RowKit Go.Joins

section
variable {H : Type} {enc : TypeId × Value → H} {P : Program} {w : World} {base : Nat} {spare : Nat → Bool} {held : Bool}

/-- An array of two integers, by value. -/
theorem open_arr2 {r : Reach} {b0 : Nat} {t e : TypeId} {k : IntKind} {v : Value} {d : DataW H} {p : List MemPlace}
    (ht : P.underlying t = some (.array 2 e)) (he : P.underlying e = some (.int k)) (hce : P.cellsOf e = 1) (hct : P.cellsOf t = 2)
    (hv : Value.okWide P w r b0 t v) (h : DataW.Trod enc P w base spare held t v d p) :
    ∃ x y : Int, v = .agg #[.int k x, .int k y] ∧ (Lit.int k x).wf = true ∧ (Lit.int k y).wf = true := by
  obtain ⟨cs, rfl, hsz⟩ : ∃ cs, v = .agg cs ∧ cs.size = P.cellsOf t := by
    have : ∃ cs, v = .agg cs ∧ cs.size = P.cellsOf t ∧ Row.okWide P w r b0 t cs := by simpa [Value.okWide, ht] using hv
    obtain ⟨cs, h1, h2, _⟩ := this
    exact ⟨cs, h1, h2⟩
  obtain ⟨c0, c1, rfl⟩ := array2 (hsz.trans hct)
  obtain ⟨fuel, hf⟩ := h
  obtain ⟨xs, m, _, _, _, hl, hi⟩ := DataW.trod_array ht hf
  rw [hce] at hi
  have h0 := hi 0 (by omega)
  have h1 := hi 1 (by omega)
  rw [List.getElem?_eq_getElem (by omega)] at h0 h1
  obtain ⟨x, e0, _, w0⟩ := DataW.trod_int he h0
  obtain ⟨y, e1, _, w1⟩ := DataW.trod_int he h1
  simp [Value.cells] at e0 e1
  exact ⟨x, y, by rw [e0, e1], w0, w1⟩
end

theorem u64_of {n : Int} (h : (Lit.int .u64 n).wf = true) : 0 ≤ n ∧ n < 18446744073709551616 := by
  simp [Lit.wf, IntKind.min, IntKind.max, IntKind.signed, IntKind.bits] at h
  omega
theorem u8_of {n : Int} (h : (Lit.int .u8 n).wf = true) : 0 ≤ n ∧ n < 256 := by
  simp [Lit.wf, IntKind.min, IntKind.max, IntKind.signed, IntKind.bits] at h
  omega
theorem u16_of {n : Int} (h : (Lit.int .u16 n).wf = true) : 0 ≤ n ∧ n < 65536 := by
  simp [Lit.wf, IntKind.min, IntKind.max, IntKind.signed, IntKind.bits] at h
  omega
theorem i64_of {n : Int} (h : (Lit.int .i64 n).wf = true) : -9223372036854775808 ≤ n ∧ n ≤ 9223372036854775807 := by
  simp [Lit.wf, IntKind.min, IntKind.max, IntKind.signed, IntKind.bits] at h
  omega

/-- '[]byte(s)': a new row that holds the bytes; nothing that was there has changed. -/
theorem conv_bytes {P : Program} (w : World) (src dst e : TypeId) (s : ByteArray) (hs : P.underlying src = some .string) (hd : P.underlying dst = some (.slice e)) (he : P.underlying e = some (.int .u8)) :
    ∃ (cap : Nat) (W2 : World), (convert src dst (.string s)).run P w = .ok (.slice (some ⟨w.heap.size, 0, none⟩) s.size cap) W2 ∧ Below w.heap.size w W2 ∧ W2.heap.size = w.heap.size + 1 ∧
      (∀ j (hj : j < s.size), W2.cell? ⟨w.heap.size, j, none⟩ = some (.int .u8 ((s[j]'hj).toNat : Int))) ∧ (∀ j, j < s.size → W2.frozen? ⟨w.heap.size, j, none⟩ = false) := by
  refine ⟨_, _, run_bytes_of_string w src dst e s hs hd he, ((Below.refl _ _).drew).alloc (Nat.le_refl _) _, by rw [World.size_alloc]; rfl, ?_, ?_⟩
  · intro j hj
    rw [show w.heap.size = w.drew.heap.size from rfl, World.cell?_alloc_mark]
    exact bytesRow_at s _ j hj
  · intro j hj
    rw [show w.heap.size = w.drew.heap.size from rfl, World.frozen?_alloc_mark]
    have : s.size ≤ (bytesRow s (grownCap w s.size 0 e)).size := by
      unfold bytesRow
      rw [Array.size_append, Array.size_map]
      exact Nat.le_add_right _ _
    rw [Bool.and_eq_false_iff]
    left
    exact decide_eq_false (by omega)

/-- 'string(b)' behind one store into the row of '[]byte(s)'. -/
theorem conv_back {P : Program} (w : World) (B cap k : Nat) (src dst e : TypeId) (s : ByteArray) (n : UInt8) (hs : P.underlying src = some (.slice e)) (he : P.underlying e = some (.int .u8)) (hd : P.underlying dst = some .string)
    (hk : k < s.size) (hc : ∀ j (hj : j < s.size), w.cell? ⟨B, j, none⟩ = some (.int .u8 ((s[j]'hj).toNat : Int))) :
    (convert src dst (.slice (some ⟨B, 0, none⟩) s.size cap)).run P (w.setCell ⟨B, k, none⟩ (.int .u8 (n.toNat : Int))).drew
      = .ok (.string ⟨(s.data.toList.set k n).toArray⟩) (w.setCell ⟨B, k, none⟩ (.int .u8 (n.toNat : Int))).drew := by
  have hlen : (s.data.toList.set k n).length = s.size := by rw [List.length_set]; rfl
  have h := run_convert_bytes_back (P := P) (w.setCell ⟨B, k, none⟩ (.int .u8 (n.toNat : Int))).drew src dst e ⟨B, 0, none⟩ cap (s.data.toList.set k n) hs he hd ?_
  · rw [hlen] at h
    exact h
  · intro j hj
    rw [hlen] at hj
    have ha : (⟨B, 0, none⟩ : Addr).add j = ⟨B, j, none⟩ := by
      unfold Addr.add
      split
      · next h0 => subst h0; rfl
      · rw [Nat.zero_add]
    rw [ha]
    show (w.setCell ⟨B, k, none⟩ (.int .u8 (n.toNat : Int))).cell? ⟨B, j, none⟩ = _
    by_cases hjk : j = k
    · subst hjk
      rw [World.cell?_setCell_same _ _ _ (hc j (by assumption)), List.getElem_set_self]
    · rw [World.cell?_setCell_other _ _ _ _ (by intro h; injection h with _ h2; exact hjk h2.symm), hc j (by assumption), List.getElem_set_ne (fun h => hjk h.symm)]
      rfl

theorem xor_u8 (a b : UInt8) : bits .xor .u8 (a.toNat : Int) (b.toNat : Int) = ((a ^^^ b).toNat : Int) := by
  have ha := a.toNat_lt
  have hb := b.toNat_lt
  have h : (a ^^^ b).toNat = a.toNat ^^^ b.toNat := UInt8.toNat_xor a b
  have hlt := (a ^^^ b).toNat_lt
  rw [h] at hlt
  have ha' : a.toNat % 2 ^ IntKind.u8.bits = a.toNat := Nat.mod_eq_of_lt ha
  have hb' : b.toNat % 2 ^ IntKind.u8.bits = b.toNat := Nat.mod_eq_of_lt hb
  simp only [bits, BitVec.ofInt_natCast, BitVec.toNat_xor, BitVec.toNat_ofNat, ha', hb']
  rw [IntKind.wrap_u8, h]
  omega
end Go.Proofs.Ytgfokkkkkeaheaa
