/-
  A question and a count as data: opened and shut.
-/
import Derived.Test.YtopccnoinngmbaaGreatDoorProg
import Derived.ChangeSame
import Derived.ChangeMaps5
import Derived.RowKit
import Derived.KernelRfl
import Derived.OpenShut
namespace Go.Proofs.YtopccnoinngmbaaGreatDoor
open Go.ChangeShapes Go.WideShapes Go.RowKit
set_option maxRecDepth 100000
set_option linter.unusedVariables false
set_option linter.unusedSimpArgs false

section
variable {H : Type} {enc : TypeId × Value → H} {w : World} {base : Nat} {sp : Nat → Bool} {held : Bool} {fuel : Nat}
theorem one_int {t : TypeId} {k : IntKind} {l : List Value} {y : DataW H × List MemPlace}
    (ht : Tryz.prog.underlying t = some (.int k)) (h : DataW.trod enc Tryz.prog w base sp held fuel t l = some y) : ∃ n, l = [.int k n] ∧ y = (.lit (.int k n), []) ∧ (Lit.int k n).wf = true := by
  cases fuel with
  | zero => simp [DataW.trod] at h
  | succ fuel =>
    match l, h with
    | [c], h =>
      cases c <;> simp [DataW.trod, ht] at h
      rename_i k' n
      obtain ⟨⟨rfl, hw⟩, rfl⟩ := h
      exact ⟨n, rfl, rfl, hw⟩
    | [], h => simp [DataW.trod, ht] at h
    | _ :: _ :: _, h => simp [DataW.trod, ht] at h
theorem one_bool {t : TypeId} {l : List Value} {y : DataW H × List MemPlace}
    (ht : Tryz.prog.underlying t = some .bool) (h : DataW.trod enc Tryz.prog w base sp held fuel t l = some y) : ∃ b, l = [.bool b] ∧ y = (.lit (.bool b), []) := by
  cases fuel with
  | zero => simp [DataW.trod] at h
  | succ fuel =>
    match l, h with
    | [c], h =>
      cases c <;> simp [DataW.trod, ht] at h
      rename_i b
      obtain rfl := h
      exact ⟨b, rfl, rfl⟩
    | [], h => simp [DataW.trod, ht] at h
    | _ :: _ :: _, h => simp [DataW.trod, ht] at h
theorem one_str {t : TypeId} {l : List Value} {y : DataW H × List MemPlace}
    (ht : Tryz.prog.underlying t = some .string) (h : DataW.trod enc Tryz.prog w base sp held fuel t l = some y) : ∃ s, l = [.string s] ∧ y = (.lit (.string s.data.toList), []) ∧ s.size ≤ maxLen := by
  cases fuel with
  | zero => simp [DataW.trod] at h
  | succ fuel =>
    match l, h with
    | [c], h =>
      cases c <;> simp [DataW.trod, ht] at h
      rename_i s
      exact ⟨s, rfl, h.2.symm, h.1⟩
    | [], h => simp [DataW.trod, ht] at h
    | _ :: _ :: _, h => simp [DataW.trod, ht] at h
theorem one_int_mk {t : TypeId} {k : IntKind} {n : Int} {m : Nat} (ht : Tryz.prog.underlying t = some (.int k)) (hw : (Lit.int k n).wf = true) : DataW.trod enc Tryz.prog w base sp held (m + 1) t [.int k n] = some (.lit (.int k n), []) := by
  simp [DataW.trod, ht, hw]
theorem one_bool_mk {t : TypeId} {b : Bool} {m : Nat} (ht : Tryz.prog.underlying t = some .bool) : DataW.trod enc Tryz.prog w base sp held (m + 1) t [.bool b] = some (.lit (.bool b), []) := by
  simp [DataW.trod, ht]
theorem one_str_mk {t : TypeId} {s : ByteArray} {m : Nat} (ht : Tryz.prog.underlying t = some .string) (hw : s.size ≤ maxLen) : DataW.trod enc Tryz.prog w base sp held (m + 1) t [.string s] = some (.lit (.string s.data.toList), []) := by
  simp [DataW.trod, ht, hw]
end
theorem cells3 : Tryz.prog.cellsOf 3 = 1 := by kernel_rfl
theorem cells4 : Tryz.prog.cellsOf 4 = 1 := by kernel_rfl
theorem cells5 : Tryz.prog.cellsOf 5 = 1 := by kernel_rfl
theorem cells9 : Tryz.prog.cellsOf 9 = 1 := by kernel_rfl
theorem cells22 : Tryz.prog.cellsOf 22 = 1 := by kernel_rfl
theorem cells23 : Tryz.prog.cellsOf 23 = 1 := by kernel_rfl
theorem cells25 : Tryz.prog.cellsOf 25 = 2 := by kernel_rfl
theorem cells27 : Tryz.prog.cellsOf 27 = 2 := by kernel_rfl
theorem cells29 : Tryz.prog.cellsOf 29 = 10 := by kernel_rfl
theorem cells30 : Tryz.prog.cellsOf 30 = 1 := by kernel_rfl
theorem cells32 : Tryz.prog.cellsOf 32 = 5 := by kernel_rfl
theorem cells34 : Tryz.prog.cellsOf 34 = 22 := by kernel_rfl
theorem cells35 : Tryz.prog.cellsOf 35 = 1 := by kernel_rfl
theorem cells37 : Tryz.prog.cellsOf 37 = 2 := by kernel_rfl
section
variable {H : Type} {enc : TypeId × Value → H} {w : World} {base : Nat} {sp : Nat → Bool} {held : Bool} {fuel : Nat} {cs : List Value} {x : DataW H × List MemPlace}
theorem open25 (h : DataW.trod enc Tryz.prog w base sp held fuel 25 cs = some x) : ∃ (x0 : Int) (x1 : Int), cs = [.int .u32 x0, .int .i64 x1] ∧ x = (.agg [.lit (.int .u32 x0), .lit (.int .i64 x1)], []) ∧ (Lit.int .u32 x0).wf = true ∧ (Lit.int .i64 x1).wf = true := by
  obtain ⟨xs, n, rfl, rfl, hl, hlen, hf⟩ := DataW.trod_struct Tryz.underlying25 h
  rw [cells25] at hl
  match cs, hl, xs, hlen with
  | [c0, c1], _, [y0, y1], _ =>
    have h0 : DataW.trod enc Tryz.prog w base sp held n 23 ((List.drop 0 [c0, c1]).take (Tryz.prog.cellsOf 23)) = some y0 := hf 0 _ rfl
    rw [cells23] at h0
    simp only [List.drop_zero, List.drop_succ_cons, List.take_succ_cons, List.take_zero] at h0
    have h1 : DataW.trod enc Tryz.prog w base sp held n 3 ((List.drop 1 [c0, c1]).take (Tryz.prog.cellsOf 3)) = some y1 := hf 1 _ rfl
    rw [cells3] at h1
    simp only [List.drop_zero, List.drop_succ_cons, List.take_succ_cons, List.take_zero] at h1
    obtain ⟨x0, e0, rfl, w0⟩ := one_int Tryz.underlying23 h0
    simp only [List.cons.injEq, and_true] at e0
    subst e0
    obtain ⟨x1, e1, rfl, w1⟩ := one_int Tryz.underlying3 h1
    simp only [List.cons.injEq, and_true] at e1
    subst e1
    exact ⟨x0, x1, rfl, by simp, w0, w1⟩
theorem shut25 {x0 x1 : Int} (m : Nat) (w0 : (Lit.int .u32 x0).wf = true) (w1 : (Lit.int .i64 x1).wf = true) : DataW.trod enc Tryz.prog w base sp held (m + 2) 25 [.int .u32 x0, .int .i64 x1] = some (.agg [.lit (.int .u32 x0), .lit (.int .i64 x1)], []) := by
  refine (trod_struct_mk (xs := [(.lit (.int .u32 x0), []), (.lit (.int .i64 x1), [])]) Tryz.underlying25 (by rw [cells25]; rfl) ?_).trans (by simp)
  have h0 : DataW.trod enc Tryz.prog w base sp held (m + 1) 23 [.int .u32 x0] = some (.lit (.int .u32 x0), []) := one_int_mk Tryz.underlying23 w0
  have h1 : DataW.trod enc Tryz.prog w base sp held (m + 1) 3 [.int .i64 x1] = some (.lit (.int .i64 x1), []) := one_int_mk Tryz.underlying3 w1
  simp only [List.mapM_cons, List.mapM_nil, cells3, cells23, List.drop_zero, List.drop_succ_cons, List.take_succ_cons, List.take_zero, h0, h1, Option.bind_eq_bind, Option.bind_some, Option.pure_def]
theorem open27 (h : DataW.trod enc Tryz.prog w base sp held fuel 27 cs = some x) : ∃ (x0 : Int) (x1 : Int), cs = [.int .u32 x0, .int .u32 x1] ∧ x = (.agg [.lit (.int .u32 x0), .lit (.int .u32 x1)], []) ∧ (Lit.int .u32 x0).wf = true ∧ (Lit.int .u32 x1).wf = true := by
  obtain ⟨xs, n, rfl, rfl, hl, hlen, hf⟩ := DataW.trod_struct Tryz.underlying27 h
  rw [cells27] at hl
  match cs, hl, xs, hlen with
  | [c0, c1], _, [y0, y1], _ =>
    have h0 : DataW.trod enc Tryz.prog w base sp held n 22 ((List.drop 0 [c0, c1]).take (Tryz.prog.cellsOf 22)) = some y0 := hf 0 _ rfl
    rw [cells22] at h0
    simp only [List.drop_zero, List.drop_succ_cons, List.take_succ_cons, List.take_zero] at h0
    have h1 : DataW.trod enc Tryz.prog w base sp held n 22 ((List.drop 1 [c0, c1]).take (Tryz.prog.cellsOf 22)) = some y1 := hf 1 _ rfl
    rw [cells22] at h1
    simp only [List.drop_zero, List.drop_succ_cons, List.take_succ_cons, List.take_zero] at h1
    obtain ⟨x0, e0, rfl, w0⟩ := one_int Tryz.underlying22 h0
    simp only [List.cons.injEq, and_true] at e0
    subst e0
    obtain ⟨x1, e1, rfl, w1⟩ := one_int Tryz.underlying22 h1
    simp only [List.cons.injEq, and_true] at e1
    subst e1
    exact ⟨x0, x1, rfl, by simp, w0, w1⟩
theorem shut27 {x0 x1 : Int} (m : Nat) (w0 : (Lit.int .u32 x0).wf = true) (w1 : (Lit.int .u32 x1).wf = true) : DataW.trod enc Tryz.prog w base sp held (m + 2) 27 [.int .u32 x0, .int .u32 x1] = some (.agg [.lit (.int .u32 x0), .lit (.int .u32 x1)], []) := by
  refine (trod_struct_mk (xs := [(.lit (.int .u32 x0), []), (.lit (.int .u32 x1), [])]) Tryz.underlying27 (by rw [cells27]; rfl) ?_).trans (by simp)
  have h0 : DataW.trod enc Tryz.prog w base sp held (m + 1) 22 [.int .u32 x0] = some (.lit (.int .u32 x0), []) := one_int_mk Tryz.underlying22 w0
  have h1 : DataW.trod enc Tryz.prog w base sp held (m + 1) 22 [.int .u32 x1] = some (.lit (.int .u32 x1), []) := one_int_mk Tryz.underlying22 w1
  simp only [List.mapM_cons, List.mapM_nil, cells22, List.drop_zero, List.drop_succ_cons, List.take_succ_cons, List.take_zero, h0, h1, Option.bind_eq_bind, Option.bind_some, Option.pure_def]
theorem open32 (h : DataW.trod enc Tryz.prog w base sp held fuel 32 cs = some x) : ∃ (x0 : Int) (x1 : Int) (x2 : Int) (x3 : Int) (x4 : Int), cs = [.int .u32 x0, .int .u32 x1, .int .u8 x2, .int .u16 x3, .int .u16 x4] ∧ x = (.agg [.lit (.int .u32 x0), .lit (.int .u32 x1), .lit (.int .u8 x2), .lit (.int .u16 x3), .lit (.int .u16 x4)], []) ∧ (Lit.int .u32 x0).wf = true ∧ (Lit.int .u32 x1).wf = true ∧ (Lit.int .u8 x2).wf = true ∧ (Lit.int .u16 x3).wf = true ∧ (Lit.int .u16 x4).wf = true := by
  obtain ⟨xs, n, rfl, rfl, hl, hlen, hf⟩ := DataW.trod_struct Tryz.underlying32 h
  rw [cells32] at hl
  match cs, hl, xs, hlen with
  | [c0, c1, c2, c3, c4], _, [y0, y1, y2, y3, y4], _ =>
    have h0 : DataW.trod enc Tryz.prog w base sp held n 23 ((List.drop 0 [c0, c1, c2, c3, c4]).take (Tryz.prog.cellsOf 23)) = some y0 := hf 0 _ rfl
    rw [cells23] at h0
    simp only [List.drop_zero, List.drop_succ_cons, List.take_succ_cons, List.take_zero] at h0
    have h1 : DataW.trod enc Tryz.prog w base sp held n 23 ((List.drop 1 [c0, c1, c2, c3, c4]).take (Tryz.prog.cellsOf 23)) = some y1 := hf 1 _ rfl
    rw [cells23] at h1
    simp only [List.drop_zero, List.drop_succ_cons, List.take_succ_cons, List.take_zero] at h1
    have h2 : DataW.trod enc Tryz.prog w base sp held n 5 ((List.drop 2 [c0, c1, c2, c3, c4]).take (Tryz.prog.cellsOf 5)) = some y2 := hf 2 _ rfl
    rw [cells5] at h2
    simp only [List.drop_zero, List.drop_succ_cons, List.take_succ_cons, List.take_zero] at h2
    have h3 : DataW.trod enc Tryz.prog w base sp held n 30 ((List.drop 3 [c0, c1, c2, c3, c4]).take (Tryz.prog.cellsOf 30)) = some y3 := hf 3 _ rfl
    rw [cells30] at h3
    simp only [List.drop_zero, List.drop_succ_cons, List.take_succ_cons, List.take_zero] at h3
    have h4 : DataW.trod enc Tryz.prog w base sp held n 30 ((List.drop 4 [c0, c1, c2, c3, c4]).take (Tryz.prog.cellsOf 30)) = some y4 := hf 4 _ rfl
    rw [cells30] at h4
    simp only [List.drop_zero, List.drop_succ_cons, List.take_succ_cons, List.take_zero] at h4
    obtain ⟨x0, e0, rfl, w0⟩ := one_int Tryz.underlying23 h0
    simp only [List.cons.injEq, and_true] at e0
    subst e0
    obtain ⟨x1, e1, rfl, w1⟩ := one_int Tryz.underlying23 h1
    simp only [List.cons.injEq, and_true] at e1
    subst e1
    obtain ⟨x2, e2, rfl, w2⟩ := one_int Tryz.underlying5 h2
    simp only [List.cons.injEq, and_true] at e2
    subst e2
    obtain ⟨x3, e3, rfl, w3⟩ := one_int Tryz.underlying30 h3
    simp only [List.cons.injEq, and_true] at e3
    subst e3
    obtain ⟨x4, e4, rfl, w4⟩ := one_int Tryz.underlying30 h4
    simp only [List.cons.injEq, and_true] at e4
    subst e4
    exact ⟨x0, x1, x2, x3, x4, rfl, by simp, w0, w1, w2, w3, w4⟩
theorem shut32 {x0 x1 x2 x3 x4 : Int} (m : Nat) (w0 : (Lit.int .u32 x0).wf = true) (w1 : (Lit.int .u32 x1).wf = true) (w2 : (Lit.int .u8 x2).wf = true) (w3 : (Lit.int .u16 x3).wf = true) (w4 : (Lit.int .u16 x4).wf = true) : DataW.trod enc Tryz.prog w base sp held (m + 2) 32 [.int .u32 x0, .int .u32 x1, .int .u8 x2, .int .u16 x3, .int .u16 x4] = some (.agg [.lit (.int .u32 x0), .lit (.int .u32 x1), .lit (.int .u8 x2), .lit (.int .u16 x3), .lit (.int .u16 x4)], []) := by
  refine (trod_struct_mk (xs := [(.lit (.int .u32 x0), []), (.lit (.int .u32 x1), []), (.lit (.int .u8 x2), []), (.lit (.int .u16 x3), []), (.lit (.int .u16 x4), [])]) Tryz.underlying32 (by rw [cells32]; rfl) ?_).trans (by simp)
  have h0 : DataW.trod enc Tryz.prog w base sp held (m + 1) 23 [.int .u32 x0] = some (.lit (.int .u32 x0), []) := one_int_mk Tryz.underlying23 w0
  have h1 : DataW.trod enc Tryz.prog w base sp held (m + 1) 23 [.int .u32 x1] = some (.lit (.int .u32 x1), []) := one_int_mk Tryz.underlying23 w1
  have h2 : DataW.trod enc Tryz.prog w base sp held (m + 1) 5 [.int .u8 x2] = some (.lit (.int .u8 x2), []) := one_int_mk Tryz.underlying5 w2
  have h3 : DataW.trod enc Tryz.prog w base sp held (m + 1) 30 [.int .u16 x3] = some (.lit (.int .u16 x3), []) := one_int_mk Tryz.underlying30 w3
  have h4 : DataW.trod enc Tryz.prog w base sp held (m + 1) 30 [.int .u16 x4] = some (.lit (.int .u16 x4), []) := one_int_mk Tryz.underlying30 w4
  simp only [List.mapM_cons, List.mapM_nil, cells5, cells23, cells30, List.drop_zero, List.drop_succ_cons, List.take_succ_cons, List.take_zero, h0, h1, h2, h3, h4, Option.bind_eq_bind, Option.bind_some, Option.pure_def]
theorem open37 (h : DataW.trod enc Tryz.prog w base sp held fuel 37 cs = some x) : ∃ (x0 : Int) (x1 : Int), cs = [.int .u64 x0, .int .u64 x1] ∧ x = (.agg [.lit (.int .u64 x0), .lit (.int .u64 x1)], []) ∧ (Lit.int .u64 x0).wf = true ∧ (Lit.int .u64 x1).wf = true := by
  obtain ⟨xs, n, rfl, rfl, hl, hlen, hf⟩ := DataW.trod_struct Tryz.underlying37 h
  rw [cells37] at hl
  match cs, hl, xs, hlen with
  | [c0, c1], _, [y0, y1], _ =>
    have h0 : DataW.trod enc Tryz.prog w base sp held n 35 ((List.drop 0 [c0, c1]).take (Tryz.prog.cellsOf 35)) = some y0 := hf 0 _ rfl
    rw [cells35] at h0
    simp only [List.drop_zero, List.drop_succ_cons, List.take_succ_cons, List.take_zero] at h0
    have h1 : DataW.trod enc Tryz.prog w base sp held n 35 ((List.drop 1 [c0, c1]).take (Tryz.prog.cellsOf 35)) = some y1 := hf 1 _ rfl
    rw [cells35] at h1
    simp only [List.drop_zero, List.drop_succ_cons, List.take_succ_cons, List.take_zero] at h1
    obtain ⟨x0, e0, rfl, w0⟩ := one_int Tryz.underlying35 h0
    simp only [List.cons.injEq, and_true] at e0
    subst e0
    obtain ⟨x1, e1, rfl, w1⟩ := one_int Tryz.underlying35 h1
    simp only [List.cons.injEq, and_true] at e1
    subst e1
    exact ⟨x0, x1, rfl, by simp, w0, w1⟩
theorem shut37 {x0 x1 : Int} (m : Nat) (w0 : (Lit.int .u64 x0).wf = true) (w1 : (Lit.int .u64 x1).wf = true) : DataW.trod enc Tryz.prog w base sp held (m + 2) 37 [.int .u64 x0, .int .u64 x1] = some (.agg [.lit (.int .u64 x0), .lit (.int .u64 x1)], []) := by
  refine (trod_struct_mk (xs := [(.lit (.int .u64 x0), []), (.lit (.int .u64 x1), [])]) Tryz.underlying37 (by rw [cells37]; rfl) ?_).trans (by simp)
  have h0 : DataW.trod enc Tryz.prog w base sp held (m + 1) 35 [.int .u64 x0] = some (.lit (.int .u64 x0), []) := one_int_mk Tryz.underlying35 w0
  have h1 : DataW.trod enc Tryz.prog w base sp held (m + 1) 35 [.int .u64 x1] = some (.lit (.int .u64 x1), []) := one_int_mk Tryz.underlying35 w1
  simp only [List.mapM_cons, List.mapM_nil, cells35, List.drop_zero, List.drop_succ_cons, List.take_succ_cons, List.take_zero, h0, h1, Option.bind_eq_bind, Option.bind_some, Option.pure_def]
theorem open29 (h : DataW.trod enc Tryz.prog w base sp held fuel 29 cs = some x) : ∃ (x0 : Bool) (x1 : Int) (x2 : Int) (x3 : Int) (x4 : Int) (x5 : Int) (x6 : Int) (x7 : Int) (x8 : Int) (x9 : Int), cs = [.bool x0, .int .i64 x1, .int .u32 x2, .int .i64 x3, .int .u32 x4, .int .i64 x5, .int .u32 x6, .int .u32 x7, .int .u32 x8, .int .u32 x9] ∧ x = (.agg [.lit (.bool x0), .lit (.int .i64 x1), .agg [.lit (.int .u32 x2), .lit (.int .i64 x3)], .agg [.lit (.int .u32 x4), .lit (.int .i64 x5)], .agg [.lit (.int .u32 x6), .lit (.int .u32 x7)], .agg [.lit (.int .u32 x8), .lit (.int .u32 x9)]], []) ∧ (Lit.int .i64 x1).wf = true ∧ (Lit.int .u32 x2).wf = true ∧ (Lit.int .i64 x3).wf = true ∧ (Lit.int .u32 x4).wf = true ∧ (Lit.int .i64 x5).wf = true ∧ (Lit.int .u32 x6).wf = true ∧ (Lit.int .u32 x7).wf = true ∧ (Lit.int .u32 x8).wf = true ∧ (Lit.int .u32 x9).wf = true := by
  obtain ⟨xs, n, rfl, rfl, hl, hlen, hf⟩ := DataW.trod_struct Tryz.underlying29 h
  rw [cells29] at hl
  match cs, hl, xs, hlen with
  | [c0, c1, c2, c3, c4, c5, c6, c7, c8, c9], _, [y0, y1, y2, y3, y4, y5], _ =>
    have h0 : DataW.trod enc Tryz.prog w base sp held n 4 ((List.drop 0 [c0, c1, c2, c3, c4, c5, c6, c7, c8, c9]).take (Tryz.prog.cellsOf 4)) = some y0 := hf 0 _ rfl
    rw [cells4] at h0
    simp only [List.drop_zero, List.drop_succ_cons, List.take_succ_cons, List.take_zero] at h0
    have h1 : DataW.trod enc Tryz.prog w base sp held n 3 ((List.drop 1 [c0, c1, c2, c3, c4, c5, c6, c7, c8, c9]).take (Tryz.prog.cellsOf 3)) = some y1 := hf 1 _ rfl
    rw [cells3] at h1
    simp only [List.drop_zero, List.drop_succ_cons, List.take_succ_cons, List.take_zero] at h1
    have h2 : DataW.trod enc Tryz.prog w base sp held n 25 ((List.drop 2 [c0, c1, c2, c3, c4, c5, c6, c7, c8, c9]).take (Tryz.prog.cellsOf 25)) = some y2 := hf 2 _ rfl
    rw [cells25] at h2
    simp only [List.drop_zero, List.drop_succ_cons, List.take_succ_cons, List.take_zero] at h2
    have h3 : DataW.trod enc Tryz.prog w base sp held n 25 ((List.drop 4 [c0, c1, c2, c3, c4, c5, c6, c7, c8, c9]).take (Tryz.prog.cellsOf 25)) = some y3 := hf 3 _ rfl
    rw [cells25] at h3
    simp only [List.drop_zero, List.drop_succ_cons, List.take_succ_cons, List.take_zero] at h3
    have h4 : DataW.trod enc Tryz.prog w base sp held n 27 ((List.drop 6 [c0, c1, c2, c3, c4, c5, c6, c7, c8, c9]).take (Tryz.prog.cellsOf 27)) = some y4 := hf 4 _ rfl
    rw [cells27] at h4
    simp only [List.drop_zero, List.drop_succ_cons, List.take_succ_cons, List.take_zero] at h4
    have h5 : DataW.trod enc Tryz.prog w base sp held n 27 ((List.drop 8 [c0, c1, c2, c3, c4, c5, c6, c7, c8, c9]).take (Tryz.prog.cellsOf 27)) = some y5 := hf 5 _ rfl
    rw [cells27] at h5
    simp only [List.drop_zero, List.drop_succ_cons, List.take_succ_cons, List.take_zero] at h5
    obtain ⟨x0, e0, rfl⟩ := one_bool Tryz.underlying4 h0
    simp only [List.cons.injEq, and_true] at e0
    subst e0
    obtain ⟨x1, e1, rfl, w1⟩ := one_int Tryz.underlying3 h1
    simp only [List.cons.injEq, and_true] at e1
    subst e1
    obtain ⟨x2, x3, e2, rfl, w2, w3⟩ := open25 h2
    simp only [List.cons.injEq, and_true] at e2
    obtain ⟨rfl, rfl⟩ := e2
    obtain ⟨x4, x5, e3, rfl, w4, w5⟩ := open25 h3
    simp only [List.cons.injEq, and_true] at e3
    obtain ⟨rfl, rfl⟩ := e3
    obtain ⟨x6, x7, e4, rfl, w6, w7⟩ := open27 h4
    simp only [List.cons.injEq, and_true] at e4
    obtain ⟨rfl, rfl⟩ := e4
    obtain ⟨x8, x9, e5, rfl, w8, w9⟩ := open27 h5
    simp only [List.cons.injEq, and_true] at e5
    obtain ⟨rfl, rfl⟩ := e5
    exact ⟨x0, x1, x2, x3, x4, x5, x6, x7, x8, x9, rfl, by simp, w1, w2, w3, w4, w5, w6, w7, w8, w9⟩
theorem shut29 {x1 x2 x3 x4 x5 x6 x7 x8 x9 : Int} {x0 : Bool} (m : Nat) (w1 : (Lit.int .i64 x1).wf = true) (w2 : (Lit.int .u32 x2).wf = true) (w3 : (Lit.int .i64 x3).wf = true) (w4 : (Lit.int .u32 x4).wf = true) (w5 : (Lit.int .i64 x5).wf = true) (w6 : (Lit.int .u32 x6).wf = true) (w7 : (Lit.int .u32 x7).wf = true) (w8 : (Lit.int .u32 x8).wf = true) (w9 : (Lit.int .u32 x9).wf = true) : DataW.trod enc Tryz.prog w base sp held (m + 3) 29 [.bool x0, .int .i64 x1, .int .u32 x2, .int .i64 x3, .int .u32 x4, .int .i64 x5, .int .u32 x6, .int .u32 x7, .int .u32 x8, .int .u32 x9] = some (.agg [.lit (.bool x0), .lit (.int .i64 x1), .agg [.lit (.int .u32 x2), .lit (.int .i64 x3)], .agg [.lit (.int .u32 x4), .lit (.int .i64 x5)], .agg [.lit (.int .u32 x6), .lit (.int .u32 x7)], .agg [.lit (.int .u32 x8), .lit (.int .u32 x9)]], []) := by
  refine (trod_struct_mk (xs := [(.lit (.bool x0), []), (.lit (.int .i64 x1), []), (.agg [.lit (.int .u32 x2), .lit (.int .i64 x3)], []), (.agg [.lit (.int .u32 x4), .lit (.int .i64 x5)], []), (.agg [.lit (.int .u32 x6), .lit (.int .u32 x7)], []), (.agg [.lit (.int .u32 x8), .lit (.int .u32 x9)], [])]) Tryz.underlying29 (by rw [cells29]; rfl) ?_).trans (by simp)
  have h0 : DataW.trod enc Tryz.prog w base sp held (m + 2) 4 [.bool x0] = some (.lit (.bool x0), []) := one_bool_mk Tryz.underlying4
  have h1 : DataW.trod enc Tryz.prog w base sp held (m + 2) 3 [.int .i64 x1] = some (.lit (.int .i64 x1), []) := one_int_mk Tryz.underlying3 w1
  have h2 : DataW.trod enc Tryz.prog w base sp held (m + 2) 25 [.int .u32 x2, .int .i64 x3] = some (.agg [.lit (.int .u32 x2), .lit (.int .i64 x3)], []) := shut25 (m + 0) w2 w3
  have h3 : DataW.trod enc Tryz.prog w base sp held (m + 2) 25 [.int .u32 x4, .int .i64 x5] = some (.agg [.lit (.int .u32 x4), .lit (.int .i64 x5)], []) := shut25 (m + 0) w4 w5
  have h4 : DataW.trod enc Tryz.prog w base sp held (m + 2) 27 [.int .u32 x6, .int .u32 x7] = some (.agg [.lit (.int .u32 x6), .lit (.int .u32 x7)], []) := shut27 (m + 0) w6 w7
  have h5 : DataW.trod enc Tryz.prog w base sp held (m + 2) 27 [.int .u32 x8, .int .u32 x9] = some (.agg [.lit (.int .u32 x8), .lit (.int .u32 x9)], []) := shut27 (m + 0) w8 w9
  simp only [List.mapM_cons, List.mapM_nil, cells3, cells4, cells25, cells27, List.drop_zero, List.drop_succ_cons, List.take_succ_cons, List.take_zero, h0, h1, h2, h3, h4, h5, Option.bind_eq_bind, Option.bind_some, Option.pure_def]
theorem open34 (h : DataW.trod enc Tryz.prog w base sp held fuel 34 cs = some x) : ∃ (x0 : Int) (x1 : ByteArray) (x2 : ByteArray) (x3 : ByteArray) (x4 : Int) (x5 : Bool) (x6 : Int) (x7 : Int) (x8 : Int) (x9 : Int) (x10 : Int) (x11 : Int) (x12 : Int) (x13 : Int) (x14 : Int) (x15 : Int) (x16 : Int) (x17 : Int) (x18 : Int) (x19 : Int) (x20 : Int) (x21 : Int), cs = [.int .u8 x0, .string x1, .string x2, .string x3, .int .u8 x4, .bool x5, .int .i64 x6, .int .u32 x7, .int .i64 x8, .int .u32 x9, .int .i64 x10, .int .u32 x11, .int .u32 x12, .int .u32 x13, .int .u32 x14, .int .u32 x15, .int .u32 x16, .int .u8 x17, .int .u16 x18, .int .u16 x19, .int .i64 x20, .int .u32 x21] ∧ x = (.agg [.lit (.int .u8 x0), .lit (.string x1.data.toList), .lit (.string x2.data.toList), .lit (.string x3.data.toList), .lit (.int .u8 x4), .agg [.lit (.bool x5), .lit (.int .i64 x6), .agg [.lit (.int .u32 x7), .lit (.int .i64 x8)], .agg [.lit (.int .u32 x9), .lit (.int .i64 x10)], .agg [.lit (.int .u32 x11), .lit (.int .u32 x12)], .agg [.lit (.int .u32 x13), .lit (.int .u32 x14)]], .agg [.lit (.int .u32 x15), .lit (.int .u32 x16), .lit (.int .u8 x17), .lit (.int .u16 x18), .lit (.int .u16 x19)], .lit (.int .i64 x20), .lit (.int .u32 x21)], []) ∧ (Lit.int .u8 x0).wf = true ∧ x1.size ≤ maxLen ∧ x2.size ≤ maxLen ∧ x3.size ≤ maxLen ∧ (Lit.int .u8 x4).wf = true ∧ (Lit.int .i64 x6).wf = true ∧ (Lit.int .u32 x7).wf = true ∧ (Lit.int .i64 x8).wf = true ∧ (Lit.int .u32 x9).wf = true ∧ (Lit.int .i64 x10).wf = true ∧ (Lit.int .u32 x11).wf = true ∧ (Lit.int .u32 x12).wf = true ∧ (Lit.int .u32 x13).wf = true ∧ (Lit.int .u32 x14).wf = true ∧ (Lit.int .u32 x15).wf = true ∧ (Lit.int .u32 x16).wf = true ∧ (Lit.int .u8 x17).wf = true ∧ (Lit.int .u16 x18).wf = true ∧ (Lit.int .u16 x19).wf = true ∧ (Lit.int .i64 x20).wf = true ∧ (Lit.int .u32 x21).wf = true := by
  obtain ⟨xs, n, rfl, rfl, hl, hlen, hf⟩ := DataW.trod_struct Tryz.underlying34 h
  rw [cells34] at hl
  match cs, hl, xs, hlen with
  | [c0, c1, c2, c3, c4, c5, c6, c7, c8, c9, c10, c11, c12, c13, c14, c15, c16, c17, c18, c19, c20, c21], _, [y0, y1, y2, y3, y4, y5, y6, y7, y8], _ =>
    have h0 : DataW.trod enc Tryz.prog w base sp held n 5 ((List.drop 0 [c0, c1, c2, c3, c4, c5, c6, c7, c8, c9, c10, c11, c12, c13, c14, c15, c16, c17, c18, c19, c20, c21]).take (Tryz.prog.cellsOf 5)) = some y0 := hf 0 _ rfl
    rw [cells5] at h0
    simp only [List.drop_zero, List.drop_succ_cons, List.take_succ_cons, List.take_zero] at h0
    have h1 : DataW.trod enc Tryz.prog w base sp held n 9 ((List.drop 1 [c0, c1, c2, c3, c4, c5, c6, c7, c8, c9, c10, c11, c12, c13, c14, c15, c16, c17, c18, c19, c20, c21]).take (Tryz.prog.cellsOf 9)) = some y1 := hf 1 _ rfl
    rw [cells9] at h1
    simp only [List.drop_zero, List.drop_succ_cons, List.take_succ_cons, List.take_zero] at h1
    have h2 : DataW.trod enc Tryz.prog w base sp held n 9 ((List.drop 2 [c0, c1, c2, c3, c4, c5, c6, c7, c8, c9, c10, c11, c12, c13, c14, c15, c16, c17, c18, c19, c20, c21]).take (Tryz.prog.cellsOf 9)) = some y2 := hf 2 _ rfl
    rw [cells9] at h2
    simp only [List.drop_zero, List.drop_succ_cons, List.take_succ_cons, List.take_zero] at h2
    have h3 : DataW.trod enc Tryz.prog w base sp held n 9 ((List.drop 3 [c0, c1, c2, c3, c4, c5, c6, c7, c8, c9, c10, c11, c12, c13, c14, c15, c16, c17, c18, c19, c20, c21]).take (Tryz.prog.cellsOf 9)) = some y3 := hf 3 _ rfl
    rw [cells9] at h3
    simp only [List.drop_zero, List.drop_succ_cons, List.take_succ_cons, List.take_zero] at h3
    have h4 : DataW.trod enc Tryz.prog w base sp held n 5 ((List.drop 4 [c0, c1, c2, c3, c4, c5, c6, c7, c8, c9, c10, c11, c12, c13, c14, c15, c16, c17, c18, c19, c20, c21]).take (Tryz.prog.cellsOf 5)) = some y4 := hf 4 _ rfl
    rw [cells5] at h4
    simp only [List.drop_zero, List.drop_succ_cons, List.take_succ_cons, List.take_zero] at h4
    have h5 : DataW.trod enc Tryz.prog w base sp held n 29 ((List.drop 5 [c0, c1, c2, c3, c4, c5, c6, c7, c8, c9, c10, c11, c12, c13, c14, c15, c16, c17, c18, c19, c20, c21]).take (Tryz.prog.cellsOf 29)) = some y5 := hf 5 _ rfl
    rw [cells29] at h5
    simp only [List.drop_zero, List.drop_succ_cons, List.take_succ_cons, List.take_zero] at h5
    have h6 : DataW.trod enc Tryz.prog w base sp held n 32 ((List.drop 15 [c0, c1, c2, c3, c4, c5, c6, c7, c8, c9, c10, c11, c12, c13, c14, c15, c16, c17, c18, c19, c20, c21]).take (Tryz.prog.cellsOf 32)) = some y6 := hf 6 _ rfl
    rw [cells32] at h6
    simp only [List.drop_zero, List.drop_succ_cons, List.take_succ_cons, List.take_zero] at h6
    have h7 : DataW.trod enc Tryz.prog w base sp held n 3 ((List.drop 20 [c0, c1, c2, c3, c4, c5, c6, c7, c8, c9, c10, c11, c12, c13, c14, c15, c16, c17, c18, c19, c20, c21]).take (Tryz.prog.cellsOf 3)) = some y7 := hf 7 _ rfl
    rw [cells3] at h7
    simp only [List.drop_zero, List.drop_succ_cons, List.take_succ_cons, List.take_zero] at h7
    have h8 : DataW.trod enc Tryz.prog w base sp held n 23 ((List.drop 21 [c0, c1, c2, c3, c4, c5, c6, c7, c8, c9, c10, c11, c12, c13, c14, c15, c16, c17, c18, c19, c20, c21]).take (Tryz.prog.cellsOf 23)) = some y8 := hf 8 _ rfl
    rw [cells23] at h8
    simp only [List.drop_zero, List.drop_succ_cons, List.take_succ_cons, List.take_zero] at h8
    obtain ⟨x0, e0, rfl, w0⟩ := one_int Tryz.underlying5 h0
    simp only [List.cons.injEq, and_true] at e0
    subst e0
    obtain ⟨x1, e1, rfl, w1⟩ := one_str Tryz.underlying9 h1
    simp only [List.cons.injEq, and_true] at e1
    subst e1
    obtain ⟨x2, e2, rfl, w2⟩ := one_str Tryz.underlying9 h2
    simp only [List.cons.injEq, and_true] at e2
    subst e2
    obtain ⟨x3, e3, rfl, w3⟩ := one_str Tryz.underlying9 h3
    simp only [List.cons.injEq, and_true] at e3
    subst e3
    obtain ⟨x4, e4, rfl, w4⟩ := one_int Tryz.underlying5 h4
    simp only [List.cons.injEq, and_true] at e4
    subst e4
    obtain ⟨x5, x6, x7, x8, x9, x10, x11, x12, x13, x14, e5, rfl, w6, w7, w8, w9, w10, w11, w12, w13, w14⟩ := open29 h5
    simp only [List.cons.injEq, and_true] at e5
    obtain ⟨rfl, rfl, rfl, rfl, rfl, rfl, rfl, rfl, rfl, rfl⟩ := e5
    obtain ⟨x15, x16, x17, x18, x19, e6, rfl, w15, w16, w17, w18, w19⟩ := open32 h6
    simp only [List.cons.injEq, and_true] at e6
    obtain ⟨rfl, rfl, rfl, rfl, rfl⟩ := e6
    obtain ⟨x20, e7, rfl, w20⟩ := one_int Tryz.underlying3 h7
    simp only [List.cons.injEq, and_true] at e7
    subst e7
    obtain ⟨x21, e8, rfl, w21⟩ := one_int Tryz.underlying23 h8
    simp only [List.cons.injEq, and_true] at e8
    subst e8
    exact ⟨x0, x1, x2, x3, x4, x5, x6, x7, x8, x9, x10, x11, x12, x13, x14, x15, x16, x17, x18, x19, x20, x21, rfl, by simp, w0, w1, w2, w3, w4, w6, w7, w8, w9, w10, w11, w12, w13, w14, w15, w16, w17, w18, w19, w20, w21⟩
theorem shut34 {x0 x4 x6 x7 x8 x9 x10 x11 x12 x13 x14 x15 x16 x17 x18 x19 x20 x21 : Int} {x5 : Bool} {x1 x2 x3 : ByteArray} (m : Nat) (w0 : (Lit.int .u8 x0).wf = true) (w1 : x1.size ≤ maxLen) (w2 : x2.size ≤ maxLen) (w3 : x3.size ≤ maxLen) (w4 : (Lit.int .u8 x4).wf = true) (w6 : (Lit.int .i64 x6).wf = true) (w7 : (Lit.int .u32 x7).wf = true) (w8 : (Lit.int .i64 x8).wf = true) (w9 : (Lit.int .u32 x9).wf = true) (w10 : (Lit.int .i64 x10).wf = true) (w11 : (Lit.int .u32 x11).wf = true) (w12 : (Lit.int .u32 x12).wf = true) (w13 : (Lit.int .u32 x13).wf = true) (w14 : (Lit.int .u32 x14).wf = true) (w15 : (Lit.int .u32 x15).wf = true) (w16 : (Lit.int .u32 x16).wf = true) (w17 : (Lit.int .u8 x17).wf = true) (w18 : (Lit.int .u16 x18).wf = true) (w19 : (Lit.int .u16 x19).wf = true) (w20 : (Lit.int .i64 x20).wf = true) (w21 : (Lit.int .u32 x21).wf = true) : DataW.trod enc Tryz.prog w base sp held (m + 4) 34 [.int .u8 x0, .string x1, .string x2, .string x3, .int .u8 x4, .bool x5, .int .i64 x6, .int .u32 x7, .int .i64 x8, .int .u32 x9, .int .i64 x10, .int .u32 x11, .int .u32 x12, .int .u32 x13, .int .u32 x14, .int .u32 x15, .int .u32 x16, .int .u8 x17, .int .u16 x18, .int .u16 x19, .int .i64 x20, .int .u32 x21] = some (.agg [.lit (.int .u8 x0), .lit (.string x1.data.toList), .lit (.string x2.data.toList), .lit (.string x3.data.toList), .lit (.int .u8 x4), .agg [.lit (.bool x5), .lit (.int .i64 x6), .agg [.lit (.int .u32 x7), .lit (.int .i64 x8)], .agg [.lit (.int .u32 x9), .lit (.int .i64 x10)], .agg [.lit (.int .u32 x11), .lit (.int .u32 x12)], .agg [.lit (.int .u32 x13), .lit (.int .u32 x14)]], .agg [.lit (.int .u32 x15), .lit (.int .u32 x16), .lit (.int .u8 x17), .lit (.int .u16 x18), .lit (.int .u16 x19)], .lit (.int .i64 x20), .lit (.int .u32 x21)], []) := by
  refine (trod_struct_mk (xs := [(.lit (.int .u8 x0), []), (.lit (.string x1.data.toList), []), (.lit (.string x2.data.toList), []), (.lit (.string x3.data.toList), []), (.lit (.int .u8 x4), []), (.agg [.lit (.bool x5), .lit (.int .i64 x6), .agg [.lit (.int .u32 x7), .lit (.int .i64 x8)], .agg [.lit (.int .u32 x9), .lit (.int .i64 x10)], .agg [.lit (.int .u32 x11), .lit (.int .u32 x12)], .agg [.lit (.int .u32 x13), .lit (.int .u32 x14)]], []), (.agg [.lit (.int .u32 x15), .lit (.int .u32 x16), .lit (.int .u8 x17), .lit (.int .u16 x18), .lit (.int .u16 x19)], []), (.lit (.int .i64 x20), []), (.lit (.int .u32 x21), [])]) Tryz.underlying34 (by rw [cells34]; rfl) ?_).trans (by simp)
  have h0 : DataW.trod enc Tryz.prog w base sp held (m + 3) 5 [.int .u8 x0] = some (.lit (.int .u8 x0), []) := one_int_mk Tryz.underlying5 w0
  have h1 : DataW.trod enc Tryz.prog w base sp held (m + 3) 9 [.string x1] = some (.lit (.string x1.data.toList), []) := one_str_mk Tryz.underlying9 w1
  have h2 : DataW.trod enc Tryz.prog w base sp held (m + 3) 9 [.string x2] = some (.lit (.string x2.data.toList), []) := one_str_mk Tryz.underlying9 w2
  have h3 : DataW.trod enc Tryz.prog w base sp held (m + 3) 9 [.string x3] = some (.lit (.string x3.data.toList), []) := one_str_mk Tryz.underlying9 w3
  have h4 : DataW.trod enc Tryz.prog w base sp held (m + 3) 5 [.int .u8 x4] = some (.lit (.int .u8 x4), []) := one_int_mk Tryz.underlying5 w4
  have h5 : DataW.trod enc Tryz.prog w base sp held (m + 3) 29 [.bool x5, .int .i64 x6, .int .u32 x7, .int .i64 x8, .int .u32 x9, .int .i64 x10, .int .u32 x11, .int .u32 x12, .int .u32 x13, .int .u32 x14] = some (.agg [.lit (.bool x5), .lit (.int .i64 x6), .agg [.lit (.int .u32 x7), .lit (.int .i64 x8)], .agg [.lit (.int .u32 x9), .lit (.int .i64 x10)], .agg [.lit (.int .u32 x11), .lit (.int .u32 x12)], .agg [.lit (.int .u32 x13), .lit (.int .u32 x14)]], []) := shut29 (m + 0) w6 w7 w8 w9 w10 w11 w12 w13 w14
  have h6 : DataW.trod enc Tryz.prog w base sp held (m + 3) 32 [.int .u32 x15, .int .u32 x16, .int .u8 x17, .int .u16 x18, .int .u16 x19] = some (.agg [.lit (.int .u32 x15), .lit (.int .u32 x16), .lit (.int .u8 x17), .lit (.int .u16 x18), .lit (.int .u16 x19)], []) := shut32 (m + 1) w15 w16 w17 w18 w19
  have h7 : DataW.trod enc Tryz.prog w base sp held (m + 3) 3 [.int .i64 x20] = some (.lit (.int .i64 x20), []) := one_int_mk Tryz.underlying3 w20
  have h8 : DataW.trod enc Tryz.prog w base sp held (m + 3) 23 [.int .u32 x21] = some (.lit (.int .u32 x21), []) := one_int_mk Tryz.underlying23 w21
  simp only [List.mapM_cons, List.mapM_nil, cells3, cells5, cells9, cells23, cells29, cells32, List.drop_zero, List.drop_succ_cons, List.take_succ_cons, List.take_zero, h0, h1, h2, h3, h4, h5, h6, h7, h8, Option.bind_eq_bind, Option.bind_some, Option.pure_def]
end
end Go.Proofs.YtopccnoinngmbaaGreatDoor
