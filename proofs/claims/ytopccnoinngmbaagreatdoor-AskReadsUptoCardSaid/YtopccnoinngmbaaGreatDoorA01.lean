/-
  Words for the walks of AskReads: frames, slices of strings, the state that ask.Parse's closures share.
-/
import Derived.Test.YtopccnoinngmbaaGreatDoorProg
import Derived.Below
import Derived.WalkKit
import Derived.OneCell
import Derived.Deep.Draws
import Derived.KernelRfl
namespace Go.Proofs.YtopccnoinngmbaaGreatDoor
open Go.RowKit

/-- All blocks but those of S are as they were. -/
structure Fr (S : Nat → Prop) (w w' : World) : Prop where
  os : w'.os = w.os
  tape : w'.tape = w.tape
  output : w'.output = w.output
  size : w.heap.size ≤ w'.heap.size
  block : ∀ k, k < w.heap.size → ¬ S k → w'.heap[k]? = w.heap[k]?

theorem Fr.refl (S : Nat → Prop) (w : World) : Fr S w w := ⟨rfl, rfl, rfl, Nat.le_refl _, fun _ _ _ => rfl⟩
theorem Fr.trans {S : Nat → Prop} {a b c : World} (h : Fr S a b) (k : Fr S b c) : Fr S a c :=
  ⟨k.os.trans h.os, k.tape.trans h.tape, k.output.trans h.output, Nat.le_trans h.size k.size, fun j hj hs => (k.block j (Nat.lt_of_lt_of_le hj h.size) hs).trans (h.block j hj hs)⟩
theorem Fr.mono {S S' : Nat → Prop} {a b : World} (h : Fr S a b) (hs : ∀ k, S k → S' k) : Fr S' a b :=
  ⟨h.os, h.tape, h.output, h.size, fun j hj hn => h.block j hj (fun x => hn (hs j x))⟩
theorem Fr.of_below {S : Nat → Prop} {w w' : World} (h : Below w.heap.size w w') : Fr S w w' :=
  ⟨h.os, h.tape, h.output, h.size, fun k hk _ => h.block k hk⟩
theorem Fr.below {S : Nat → Prop} {w w' : World} (h : Fr S w w') (hs : ∀ k, k < w.heap.size → ¬ S k) : Below w.heap.size w w' :=
  ⟨h.os, h.tape, h.output, h.size, fun k hk => h.block k hk (hs k hk)⟩
theorem Fr.setCell (S : Nat → Prop) (w : World) {p : Addr} (hp : S p.block) (u : Value) : Fr S w (w.setCell p u) :=
  ⟨rfl, rfl, rfl, by simp [World.setCell], fun k _ hs => Below.heap_setCell w p u k (fun e => hs (e ▸ hp))⟩
theorem Fr.alloc (S : Nat → Prop) (w : World) (o : Obj) : Fr S w (w.alloc o) :=
  .of_below (((Below.refl _ w)).alloc (Nat.le_refl _) o)
theorem Fr.drewN (S : Nat → Prop) (w : World) (n : Nat) : Fr S w (w.drewN n) := ⟨rfl, rfl, rfl, Nat.le_refl _, fun _ _ _ => rfl⟩
theorem Fr.drew (S : Nat → Prop) (w : World) : Fr S w w.drew := ⟨rfl, rfl, rfl, Nat.le_refl _, fun _ _ _ => rfl⟩
/-- What is below a mark that S does not reach. -/
theorem Fr.belowAt {S : Nat → Prop} {B : Nat} {w0 w w' : World} (h0 : Below B w0 w) (h : Fr S w w') (hB : B ≤ w.heap.size) (hs : ∀ k, S k → B ≤ k) : Below B w0 w' :=
  ⟨h.os.trans h0.os, h.tape.trans h0.tape, h.output.trans h0.output, Nat.le_trans h0.size h.size,
    fun k hk => (h.block k (by omega) (fun x => by have := hs k x; omega)).trans (h0.block k hk)⟩
theorem Fr.kept {S : Nat → Prop} {w w' : World} (h : Fr S w w') {b : Nat} {o : Obj} (hb : w.heap[b]? = some o) (hs : ¬ S b) : w'.heap[b]? = some o :=
  (h.block b (lt_of_block hb) hs).trans hb

theorem toList_ne {x s : ByteArray} (h : x ≠ s) : (x.toList == s.toList) = false := by
  rw [Bool.eq_false_iff]
  intro e
  apply h
  have e' := beq_iff_eq.1 e
  rw [ByteArray.toList_eq, ByteArray.toList_eq] at e'
  exact ByteArray.ext (Array.ext' e')
theorem toList_eq_iff {x s : ByteArray} : x = s ↔ x.data.toList = s.data.toList := ⟨fun h => by rw [h], fun h => ByteArray.ext (Array.ext' h)⟩
theorem toList_same (x : ByteArray) : (x.toList == x.toList) = true := beq_self_eq_true _

theorem below_drewN {B : Nat} {a w : World} (h : Below B a w) (n : Nat) : Below B a (w.drewN n) := ⟨h.os, h.tape, h.output, h.size, h.block⟩
theorem below_new (w : World) (o : Obj) : Below w.heap.size w (w.alloc o) := (Below.refl _ w).alloc (Nat.le_refl _) o
theorem below_seq {a b c : World} (h : Below a.heap.size a b) (k : Below b.heap.size b c) : Below a.heap.size a c := h.trans (k.mono h.size)
theorem kept_new {W w1 : World} {o : Obj} (hb : Below (W.alloc o).heap.size (W.alloc o) w1) : w1.heap[W.heap.size]? = some o :=
  (hb.block W.heap.size (by show W.heap.size < (W.heap.push o).size; simp)).trans (heap_alloc_new _ _)
theorem kept_old {W w1 : World} {b : Nat} {o : Obj} (hb : Below W.heap.size W w1) (h : W.heap[b]? = some o) : w1.heap[b]? = some o :=
  (hb.block b (lt_of_block h)).trans h
theorem two_of {w : World} {b : Nat} {v0 v1 : Value} {t : TypeId} (h : w.heap[b]? = some (.cells #[v0, v1] t (0, 0))) :
    w.cell? ⟨b, 0, none⟩ = some v0 ∧ w.cell? ⟨b, 1, none⟩ = some v1 ∧ w.frozen? ⟨b, 0, none⟩ = false ∧ w.frozen? ⟨b, 1, none⟩ = false := by
  simp [World.cell?, World.frozen?, h]
theorem cell_at {w : World} {b : Nat} {cs : Array Value} {t : TypeId} {fr : Nat × Nat} (h : w.heap[b]? = some (.cells cs t fr)) (j : Nat) : w.cell? ⟨b, j, none⟩ = cs[j]? := by simp [World.cell?, h]
theorem free_at {w : World} {b : Nat} {cs : Array Value} {t : TypeId} (h : w.heap[b]? = some (.cells cs t (0, 0))) (j : Nat) : w.frozen? ⟨b, j, none⟩ = false := by simp [World.frozen?, h]
theorem block_setCell {w : World} {b : Nat} {cs : Array Value} {t : TypeId} {fr : Nat × Nat} (h : w.heap[b]? = some (.cells cs t fr)) (j : Nat) (u : Value) :
    (w.setCell ⟨b, j, none⟩ u).heap[b]? = some (.cells (cs.setIfInBounds j u) t fr) := by
  have hlt := lt_of_block h
  have h' : w.heap[b] = .cells cs t fr := by simpa [Array.getElem?_eq_getElem hlt] using h
  show (w.heap.modify b _)[b]? = _
  rw [Array.getElem?_eq_getElem (by simpa using hlt), Array.getElem_modify_self, h']
  rfl
theorem str_app (l m : List UInt8) : (⟨l.toArray⟩ : ByteArray) ++ ⟨m.toArray⟩ = ⟨(l ++ m).toArray⟩ := by
  apply ByteArray.ext; simp
theorem str_ext {x y : ByteArray} (h : x.data.toList = y.data.toList) : x = y := ByteArray.ext (Array.ext' h)
theorem ret_str {x y : ByteArray} (h : x.data.toList = y.data.toList) : Ending.returned (.string x) = .returned (.string y) := by rw [str_ext h]
theorem five_of {w : World} {b : Nat} {v0 v1 v2 v3 v4 : Value} {t : TypeId} (h : w.heap[b]? = some (.cells #[v0, v1, v2, v3, v4] t (0, 0))) :
    w.cell? ⟨b, 0, none⟩ = some v0 ∧ w.cell? ⟨b, 1, none⟩ = some v1 ∧ w.cell? ⟨b, 2, none⟩ = some v2 ∧ w.cell? ⟨b, 3, none⟩ = some v3 ∧ w.cell? ⟨b, 4, none⟩ = some v4 := by
  simp [World.cell?, h]
theorem free5_of {w : World} {b : Nat} {v0 v1 v2 v3 v4 : Value} {t : TypeId} (h : w.heap[b]? = some (.cells #[v0, v1, v2, v3, v4] t (0, 0))) :
    w.frozen? ⟨b, 0, none⟩ = false ∧ w.frozen? ⟨b, 1, none⟩ = false ∧ w.frozen? ⟨b, 2, none⟩ = false ∧ w.frozen? ⟨b, 3, none⟩ = false ∧ w.frozen? ⟨b, 4, none⟩ = false := by
  simp [World.frozen?, h]
/-- A slice's cells are these strings. -/
def SS (w : World) (A : Option Addr) (xs : List ByteArray) : Prop :=
  xs = [] ∨ ∃ b o cs fr, A = some ⟨b, o, none⟩ ∧ w.heap[b]? = some (.cells cs 9 fr) ∧ ∀ (j : Nat) x, xs[j]? = some x → cs[o + j]? = some (.string x)

theorem SS.nil (w : World) (A : Option Addr) : SS w A [] := .inl rfl
theorem SS.cell {w : World} {A : Option Addr} {xs : List ByteArray} (h : SS w A xs) {j : Nat} {x : ByteArray} (hj : xs[j]? = some x) :
    ∃ b o, A = some ⟨b, o, none⟩ ∧ w.cell? ⟨b, o + j, none⟩ = some (.string x) := by
  rcases h with rfl | ⟨b, o, cs, fr, rfl, hb, hc⟩
  · simp at hj
  · exact ⟨b, o, rfl, by simp [World.cell?, hb, hc j x hj]⟩
theorem SS.kept {w w' : World} {A : Option Addr} {xs : List ByteArray} (h : SS w A xs) (hk : ∀ (b : Nat) (cs : Array Value) (fr : Nat × Nat), w.heap[b]? = some (.cells cs 9 fr) → w'.heap[b]? = some (.cells cs 9 fr)) : SS w' A xs := by
  rcases h with h | ⟨b, o, cs, fr, rfl, hb, hc⟩
  · exact .inl h
  · exact .inr ⟨b, o, cs, fr, rfl, hk _ _ _ hb, hc⟩
theorem SS.tail {w : World} {b o : Nat} {x : ByteArray} {xs : List ByteArray} (h : SS w (some ⟨b, o, none⟩) (x :: xs)) : SS w (some ⟨b, o + 1, none⟩) xs := by
  rcases h with h | ⟨b', o', cs, fr, he, hb, hc⟩
  · cases h
  · cases he
    exact .inr ⟨b, o + 1, cs, fr, rfl, hb, fun j y hj => by have := hc (j + 1) y (by simpa using hj); rwa [show o + 1 + j = o + (j + 1) by omega]⟩

/-- The variables that ask.Parse's closures share: the words that are left, whether something was wrong. -/
structure PSt (w : World) (ra ba wv iv : Nat) (rs : List ByteArray) (bad : Bool) : Prop where
  rest : ∃ A c, w.heap[ra]? = some (.cells #[.slice A rs.length c] 51 (0, 0)) ∧ rs.length ≤ c ∧ c ≤ 1099511627776 ∧ SS w A rs
  flag : w.heap[ba]? = some (.cells #[.bool bad] 4 (0, 0))
  word : w.heap[wv]? = some (.cells #[.func (.func 13) #[] #[.pointer (some ⟨ra, 0, none⟩), .pointer (some ⟨ba, 0, none⟩)]] 53 (0, 0))
  is : w.heap[iv]? = some (.cells #[.func (.func 16) #[] #[.pointer (some ⟨ra, 0, none⟩)]] 54 (0, 0))
  small : ∀ x ∈ rs, x.size ≤ 16777216

theorem PSt.ra_ne_ba {w : World} {ra ba wv iv : Nat} {rs : List ByteArray} {bad : Bool} (h : PSt w ra ba wv iv rs bad) : ra ≠ ba := by
  rintro rfl
  obtain ⟨A, c, hr, _⟩ := h.rest
  have := hr.symm.trans h.flag
  simp at this

/-- The blocks that a closure writes. -/
def RB (ra ba : Nat) (k : Nat) : Prop := k = ra ∨ k = ba

/-- What is no word list's nor flag's block stays. -/
theorem PSt.frame {w w' : World} {ra ba wv iv : Nat} {rs : List ByteArray} {bad : Bool} (h : PSt w ra ba wv iv rs bad) (hk : ∀ k, k < w.heap.size → w'.heap[k]? = w.heap[k]?) : PSt w' ra ba wv iv rs bad := by
  have keep : ∀ {b o}, w.heap[b]? = some o → w'.heap[b]? = some o := fun hb => (hk _ (lt_of_block hb)).trans hb
  obtain ⟨A, c, hr, h1, h2, h3⟩ := h.rest
  exact ⟨⟨A, c, keep hr, h1, h2, h3.kept fun b cs fr hb => keep hb⟩, keep h.flag, keep h.word, keep h.is, h.small⟩

theorem PSt.setFlag {w : World} {ra ba wv iv : Nat} {rs : List ByteArray} {bad : Bool} (h : PSt w ra ba wv iv rs bad) (b : Bool) : PSt (w.setCell ⟨ba, 0, none⟩ (.bool b)) ra ba wv iv rs b := by
  have other : ∀ {k : Nat} {cs : Array Value} {t : TypeId} {fr : Nat × Nat}, w.heap[k]? = some (.cells cs t fr) → t ≠ 4 → (w.setCell ⟨ba, 0, none⟩ (.bool b)).heap[k]? = some (.cells cs t fr) := fun {k cs t fr} hb ht => by
    rw [Below.heap_setCell _ _ _ _ (fun e => ht ?_)]
    · exact hb
    · have e' : k = ba := e
      subst e'
      have := hb.symm.trans h.flag
      simp at this
      exact this.2.1
  obtain ⟨A, c, hr, h1, h2, h3⟩ := h.rest
  exact ⟨⟨A, c, other hr (by decide), h1, h2, h3.kept fun k cs fr hb => other hb (by decide)⟩, one_setCell h.flag, other h.word (by decide), other h.is (by decide), h.small⟩

theorem PSt.setRest {w : World} {ra ba wv iv : Nat} {rs rs' : List ByteArray} {bad : Bool} (h : PSt w ra ba wv iv rs bad) {A : Option Addr} {c : Nat} (h1 : rs'.length ≤ c) (h2 : c ≤ 1099511627776) (h3 : SS w A rs') (h4 : ∀ x ∈ rs', x.size ≤ 16777216) :
    PSt (w.setCell ⟨ra, 0, none⟩ (.slice A rs'.length c)) ra ba wv iv rs' bad := by
  obtain ⟨A0, c0, hr, _, _, _⟩ := h.rest
  have other : ∀ {k : Nat} {cs : Array Value} {t : TypeId} {fr : Nat × Nat}, w.heap[k]? = some (.cells cs t fr) → t ≠ 51 → (w.setCell ⟨ra, 0, none⟩ (.slice A rs'.length c)).heap[k]? = some (.cells cs t fr) := fun {k cs t fr} hb ht => by
    rw [Below.heap_setCell _ _ _ _ (fun e => ht ?_)]
    · exact hb
    · have e' : k = ra := e
      subst e'
      have := hb.symm.trans hr
      simp at this
      exact this.2.1
  exact ⟨⟨A, c, one_setCell hr, h1, h2, h3.kept fun k cs fr hb => other hb (by decide)⟩, other h.flag (by decide), other h.word (by decide), other h.is (by decide), h4⟩
theorem PSt.other {w : World} {ra ba wv iv : Nat} {rs : List ByteArray} {bad : Bool} (h : PSt w ra ba wv iv rs bad) {b : Nat} {cs : Array Value} {t : TypeId} {fr : Nat × Nat} (hb : w.heap[b]? = some (.cells cs t fr))
    (ht : t ≠ 51 ∧ t ≠ 4 ∧ t ≠ 53 ∧ t ≠ 54 ∧ t ≠ 9) (j : Nat) (u : Value) : PSt (w.setCell ⟨b, j, none⟩ u) ra ba wv iv rs bad := by
  have other : ∀ {k : Nat} {ds : Array Value} {t' : TypeId} {fr' : Nat × Nat}, w.heap[k]? = some (.cells ds t' fr') → t' ≠ t → (w.setCell ⟨b, j, none⟩ u).heap[k]? = some (.cells ds t' fr') := fun {k ds t' fr'} hk hne => by
    rw [Below.heap_setCell _ _ _ _ (fun e => hne ?_)]
    · exact hk
    · have e' : k = b := e
      subst e'
      have := hk.symm.trans hb
      simp at this
      exact this.2.1
  obtain ⟨h51, h4, h53, h54, h9⟩ := ht
  obtain ⟨A, c, hr, h1, h2, h3⟩ := h.rest
  exact ⟨⟨A, c, other hr h51.symm, h1, h2, h3.kept fun k cs fr hb => other hb h9.symm⟩, other h.flag h4.symm, other h.word h53.symm, other h.is h54.symm, h.small⟩
theorem Fr.new {S : Nat → Prop} {w w1 : World} (h : Fr S w w1) {p : Addr} (hp : w.heap.size ≤ p.block) (u : Value) : Fr S w (w1.setCell p u) :=
  ⟨h.os, h.tape, h.output, by simpa [World.setCell] using h.size, fun k hk hs => (Below.heap_setCell w1 p u k (by omega)).trans (h.block k hk hs)⟩
theorem Fr.below_then {S : Nat → Prop} {a b c : World} (h : Below a.heap.size a b) (k : Fr S b c) : Fr S a c := (Fr.of_below h).trans k
end Go.Proofs.YtopccnoinngmbaaGreatDoor
