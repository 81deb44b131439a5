/-
  '==' of spans, prefixes, headers, rules, questions.
-/
import Derived.Test.YtopccnoinngmbaaGreatDoorA14
import Derived.Laws.StructEq
import Derived.Laws.Cover3
namespace Go.Proofs.YtopccnoinngmbaaGreatDoor
open Go.RowKit
set_option maxRecDepth 100000
set_option linter.unusedVariables false
set_option linter.unusedSimpArgs false

section
variable {P : Program} {d : Nat} {xs ys : Array Value} {f : Field} {fs : List Field} {a b : Value} {r s : Bool} {w : World}
/-- Fields, each with its answer. -/
inductive Eqs (P : Program) (d : Nat) (xs ys : Array Value) (w : World) : List Field → Bool → Prop
  | nil : Eqs P d xs ys w [] true
  | cons {f : Field} {fs : List Field} {a b : Value} {r s : Bool} (hn : (f.name == "_") = false) (ha : (Go.part f.type xs f.offset).run P w = .ok a w) (hb : (Go.part f.type ys f.offset).run P w = .ok b w) (he : (Op.equalIn d f.type a b).run P w = .ok r w)
      (hr : Eqs P d xs ys w fs s) : Eqs P d xs ys w (f :: fs) (r && s)
theorem Eqs.run (h : Eqs P d xs ys w fs s) : (Op.eqFields d xs ys fs).run P w = .ok s w := by
  induction h with
  | nil => simp [Op.eqFields]
  | @cons f fs a b r s hn ha hb he _ ih =>
    have hn' : f.name ≠ "_" := by simpa using hn
    rw [Op.eqFields]
    simp only [if_pos hn', Sem.run_bind, ha, hb, he, Result.andThen_ok]
    cases r
    · simp
    · simpa using ih
theorem eqAgg {t : TypeId} {fa : Array Field} (hu : P.underlying t = some (.struct fa)) (hp : P.stoodInHeld t = false) (h : Eqs P d xs ys w fa.toList s) : (Op.equalIn (d + 1) t (.agg xs) (.agg ys)).run P w = .ok s w := by
  have hf : P.fieldsOf t = fa := by simp [Program.fieldsOf, hu]
  rw [run_equalIn_struct (P := P) w d t xs ys (by rw [hf]; exact hu) hp, hf]
  exact h.run
end
/-- The fields of a type, by name, type and place. -/
theorem fields_of {t : TypeId} {l : List (Bool × TypeId × Nat)} (h : (Tryz.prog.underlying t).map (fun d => match d with | .struct fs => fs.toList.map (fun f => (f.name == "_", f.type, f.offset)) | _ => []) = some l) (hl : l ≠ []) :
    ∃ fa : Array Field, Tryz.prog.underlying t = some (.struct fa) ∧ fa.toList.map (fun f => (f.name == "_", f.type, f.offset)) = l := by
  obtain ⟨d, hd, he⟩ := Option.map_eq_some_iff.1 h
  split at he
  · rename_i fs; exact ⟨fs, hd, he⟩
  · exact absurd he.symm hl
theorem eqs_cons {d : Nat} {xs ys : Array Value} {w : World} {fs : List Field} {t : TypeId} {o : Nat} {l : List (Bool × TypeId × Nat)} {a b : Value} {r s : Bool} (h : fs.map (fun f => (f.name == "_", f.type, f.offset)) = (false, t, o) :: l)
    (ha : (Go.part t xs o).run Tryz.prog w = .ok a w) (hb : (Go.part t ys o).run Tryz.prog w = .ok b w) (he : (Op.equalIn d t a b).run Tryz.prog w = .ok r w) (hr : ∀ gs : List Field, gs.map (fun f => (f.name == "_", f.type, f.offset)) = l → Eqs Tryz.prog d xs ys w gs s) :
    Eqs Tryz.prog d xs ys w fs (r && s) := by
  obtain ⟨f, gs, rfl, hf, hg⟩ := List.map_eq_cons_iff.1 h
  simp only [Prod.mk.injEq] at hf
  obtain ⟨h1, rfl, rfl⟩ := hf
  exact .cons h1 ha hb he (hr gs hg)
theorem eqs_nil {d : Nat} {xs ys : Array Value} {w : World} {fs : List Field} (h : fs.map (fun f => (f.name == "_", f.type, f.offset)) = []) : Eqs Tryz.prog d xs ys w fs true := by
  rw [List.map_eq_nil_iff.1 h]; exact .nil
theorem u22 : Tryz.prog.underlying 22 = some (.int .u32) := by kernel_rfl
theorem eqI {d : Nat} {t : TypeId} {k : IntKind} (h : Tryz.prog.underlying t = some (.int k)) (a b : Int) (w : World) : (Op.equalIn (d + 1) t (.int k a) (.int k b)).run Tryz.prog w = .ok (a == b) w := run_equalIn_int (P := Tryz.prog) w d t k k a b h

theorem eqSpan' (d : Nat) (a b x y : Int) (w : World) : (Op.equalIn (d + 2) 27 (.agg #[.int .u32 a, .int .u32 b]) (.agg #[.int .u32 x, .int .u32 y])).run Tryz.prog w = .ok (a == x && (b == y && true)) w := by
  obtain ⟨fa, hu, hf⟩ := fields_of (t := 27) (l := [(false, 22, 0), (false, 22, 1)]) (by kernel_rfl) (by decide)
  exact eqAgg hu (by kernel_rfl) (eqs_cons hf (by kernel_rfl) (by kernel_rfl) (eqI u22 a x w) fun gs hg => eqs_cons hg (by kernel_rfl) (by kernel_rfl) (eqI u22 b y w) fun gs hg => eqs_nil hg)
theorem eqSpan (a b : Int) (w : World) : (Op.equalIn 10000 27 (.agg #[.int .u32 a, .int .u32 b]) (.agg #[.int .u32 0, .int .u32 65535])).run Tryz.prog w = .ok (a == 0 && b == 65535) w := by
  rw [show (10000 : Nat) = 9998 + 2 from rfl, eqSpan', Bool.and_true]

theorem u23 : Tryz.prog.underlying 23 = some (.int .u32) := by kernel_rfl
theorem u3 : Tryz.prog.underlying 3 = some (.int .i64) := by kernel_rfl
theorem u5 : Tryz.prog.underlying 5 = some (.int .u8) := by kernel_rfl
theorem u4 : Tryz.prog.underlying 4 = some .bool := by kernel_rfl
theorem u9 : Tryz.prog.underlying 9 = some .string := by kernel_rfl
theorem eqStr {d : Nat} (a b : ByteArray) (w : World) : (Op.equalIn (d + 1) 9 (.string a) (.string b)).run Tryz.prog w = .ok (a.toList == b.toList) w := run_equalIn_string (P := Tryz.prog) w d 9 a b u9
theorem eqBoo {d : Nat} (a b : Bool) (w : World) : (Op.equalIn (d + 1) 4 (.bool a) (.bool b)).run Tryz.prog w = .ok (a == b) w := run_equalIn_bool' (P := Tryz.prog) w d 4 a b u4
theorem eqPre (d : Nat) (a b x y : Int) (w : World) : (Op.equalIn (d + 2) 25 (.agg #[.int .u32 a, .int .i64 b]) (.agg #[.int .u32 x, .int .i64 y])).run Tryz.prog w = .ok (a == x && (b == y && true)) w := by
  obtain ⟨fa, hu, hf⟩ := fields_of (t := 25) (l := [(false, 23, 0), (false, 3, 1)]) (by kernel_rfl) (by decide)
  exact eqAgg hu (by kernel_rfl) (eqs_cons hf (by kernel_rfl) (by kernel_rfl) (eqI u23 a x w) fun gs hg => eqs_cons hg (by kernel_rfl) (by kernel_rfl) (eqI u3 b y w) fun gs hg => eqs_nil hg)
def Hd.beq (g h : Hd) : Bool := g.src == h.src && (g.dst == h.dst && (g.proto == h.proto && (g.sport == h.sport && (g.dport == h.dport && true))))
theorem eqHd (d : Nat) (g h : Hd) (w : World) : (Op.equalIn (d + 2) 32 (.agg #[.int .u32 g.src, .int .u32 g.dst, .int .u8 g.proto, .int .u16 g.sport, .int .u16 g.dport]) (.agg #[.int .u32 h.src, .int .u32 h.dst, .int .u8 h.proto, .int .u16 h.sport, .int .u16 h.dport])).run Tryz.prog w = .ok (g.beq h) w := by
  obtain ⟨fa, hu, hf⟩ := fields_of (t := 32) (l := [(false, 23, 0), (false, 23, 1), (false, 5, 2), (false, 30, 3), (false, 30, 4)]) (by kernel_rfl) (by decide)
  have u16 : Tryz.prog.underlying 30 = some (.int .u16) := by kernel_rfl
  exact eqAgg hu (by kernel_rfl) (eqs_cons hf (by kernel_rfl) (by kernel_rfl) (eqI u23 _ _ w) fun gs hg => eqs_cons hg (by kernel_rfl) (by kernel_rfl) (eqI u23 _ _ w) fun gs hg => eqs_cons hg (by kernel_rfl) (by kernel_rfl) (eqI u5 _ _ w) fun gs hg =>
    eqs_cons hg (by kernel_rfl) (by kernel_rfl) (eqI u16 _ _ w) fun gs hg => eqs_cons hg (by kernel_rfl) (by kernel_rfl) (eqI u16 _ _ w) fun gs hg => eqs_nil hg)
/-- A question's rule. -/
def Q.rule (q : Q) : Array Value := #[.bool q.permit, .int .i64 q.proto, .int .u32 q.src, .int .i64 q.sbits, .int .u32 q.dst, .int .i64 q.dbits, .int .u32 q.slo, .int .u32 q.shi, .int .u32 q.dlo, .int .u32 q.dhi]
def Q.req (x y : Q) : Bool := x.permit == y.permit && (x.proto == y.proto && ((x.src == y.src && (x.sbits == y.sbits && true)) && ((x.dst == y.dst && (x.dbits == y.dbits && true)) && ((x.slo == y.slo && (x.shi == y.shi && true)) && ((x.dlo == y.dlo && (x.dhi == y.dhi && true)) && true)))))
theorem eqRule (d : Nat) (x y : Q) (w : World) : (Op.equalIn (d + 3) 29 (.agg x.rule) (.agg y.rule)).run Tryz.prog w = .ok (x.req y) w := by
  obtain ⟨fa, hu, hf⟩ := fields_of (t := 29) (l := [(false, 4, 0), (false, 3, 1), (false, 25, 2), (false, 25, 4), (false, 27, 6), (false, 27, 8)]) (by kernel_rfl) (by decide)
  exact eqAgg hu (by kernel_rfl) (eqs_cons hf (by kernel_rfl) (by kernel_rfl) (eqBoo _ _ w) fun gs hg => eqs_cons hg (by kernel_rfl) (by kernel_rfl) (eqI u3 _ _ w) fun gs hg => eqs_cons hg (by kernel_rfl) (by kernel_rfl) (eqPre d _ _ _ _ w) fun gs hg =>
    eqs_cons hg (by kernel_rfl) (by kernel_rfl) (eqPre d _ _ _ _ w) fun gs hg => eqs_cons hg (by kernel_rfl) (by kernel_rfl) (eqSpan' d _ _ _ _ w) fun gs hg => eqs_cons hg (by kernel_rfl) (by kernel_rfl) (eqSpan' d _ _ _ _ w) fun gs hg => eqs_nil hg)
def Q.beq (x y : Q) : Bool := x.kind == y.kind && (x.dev.toList == y.dev.toList && (x.ifc.toList == y.ifc.toList && (x.vrf.toList == y.vrf.toList && (x.en == y.en && (x.req y && (x.hd.beq y.hd && (x.hops == y.hops && (x.addr == y.addr && true))))))))
theorem eqQt (t : TypeId) (d : Nat) (x y : Q) (w : World) (hf0 : (Tryz.prog.underlying t).map (fun d => match d with | .struct fs => fs.toList.map (fun f => (f.name == "_", f.type, f.offset)) | _ => []) = some [(false, 5, 0), (false, 9, 1), (false, 9, 2), (false, 9, 3), (false, 5, 4), (false, 29, 5), (false, 32, 15), (false, 3, 20), (false, 23, 21)])
    (hp : Tryz.prog.stoodInHeld t = false) : (Op.equalIn (d + 4) t (.agg x.cells) (.agg y.cells)).run Tryz.prog w = .ok (x.beq y) w := by
  obtain ⟨fa, hu, hf⟩ := fields_of (t := t) hf0 (by decide)
  exact eqAgg hu hp (eqs_cons hf (by kernel_rfl) (by kernel_rfl) (eqI u5 _ _ w) fun gs hg => eqs_cons hg (by kernel_rfl) (by kernel_rfl) (eqStr _ _ w) fun gs hg => eqs_cons hg (by kernel_rfl) (by kernel_rfl) (eqStr _ _ w) fun gs hg =>
    eqs_cons hg (by kernel_rfl) (by kernel_rfl) (eqStr _ _ w) fun gs hg => eqs_cons hg (by kernel_rfl) (by kernel_rfl) (eqI u5 _ _ w) fun gs hg => eqs_cons hg (a := .agg x.rule) (b := .agg y.rule) (by kernel_rfl) (by kernel_rfl) (eqRule d x y w) fun gs hg =>
    eqs_cons hg (by kernel_rfl) (by kernel_rfl) (eqHd (d + 1) x.hd y.hd w) fun gs hg => eqs_cons hg (by kernel_rfl) (by kernel_rfl) (eqI u3 _ _ w) fun gs hg => eqs_cons hg (by kernel_rfl) (by kernel_rfl) (eqI u23 _ _ w) fun gs hg => eqs_nil hg)
theorem eqQ34 (x y : Q) (w : World) : (Op.equalIn 10000 34 (.agg x.cells) (.agg y.cells)).run Tryz.prog w = .ok (x.beq y) w := eqQt 34 9996 x y w (by kernel_rfl) (by kernel_rfl)
theorem eqQ41 (x y : Q) (w : World) : (Op.equalIn 10000 41 (.agg x.cells) (.agg y.cells)).run Tryz.prog w = .ok (x.beq y) w := eqQt 41 9996 x y w (by kernel_rfl) (by kernel_rfl)
theorem list_eq_iff {a b : ByteArray} : (a.toList == b.toList) = true ↔ a = b := by
  constructor
  · intro h
    have e' := beq_iff_eq.1 h
    rw [ByteArray.toList_eq, ByteArray.toList_eq] at e'
    exact ByteArray.ext (Array.ext' e')
  · rintro rfl; exact toList_same _
theorem Q.beq_iff (x y : Q) : x.beq y = true ↔ x = y := by
  obtain ⟨a1, a2, a3, a4, a5, a6, a7, a8, a9, a10, a11, a12, a13, a14, a15, ⟨a16, a17, a18, a19, a20⟩, a21, a22⟩ := x
  obtain ⟨b1, b2, b3, b4, b5, b6, b7, b8, b9, b10, b11, b12, b13, b14, b15, ⟨b16, b17, b18, b19, b20⟩, b21, b22⟩ := y
  simp only [Q.beq, Q.req, Hd.beq, Bool.and_eq_true, list_eq_iff]
  simp only [beq_iff_eq, Q.mk.injEq, Hd.mk.injEq, and_true]
  constructor
  · rintro ⟨rfl, rfl, rfl, rfl, rfl, ⟨rfl, rfl, ⟨rfl, rfl⟩, ⟨rfl, rfl⟩, ⟨rfl, rfl⟩, rfl, rfl⟩, ⟨rfl, rfl, rfl, rfl, rfl⟩, rfl, rfl⟩
    simp
  · rintro ⟨rfl, rfl, rfl, rfl, rfl, rfl, rfl, rfl, rfl, rfl, rfl, rfl, rfl, rfl, rfl, ⟨rfl, rfl, rfl, rfl, rfl⟩, rfl, rfl⟩
    simp
end Go.Proofs.YtopccnoinngmbaaGreatDoor
