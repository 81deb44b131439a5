/-
  The closures of ask.Parse at the memory of ask.Parse.
  ask.Parse walked.
  ask.Parse walked: the pieces of its code
-/
import Derived.Test.YtopccnoinngmbaaGreatDoorA14
import Derived.Deep.MidRow
import Derived.Deep.DeepCutAuto
import Derived.Outline
import Derived.Laws.EntriesVeiled
import Derived.Laws.Tables
import Derived.Laws.Rows
import Derived.Laws.CopyOwn
import Derived.Deep.CutBlock

/- The closures of ask.Parse at the memory of ask.Parse. -/
namespace Go.Proofs.YtopccnoinngmbaaGreatDoor
open Go.RowKit
set_option maxRecDepth 100000
set_option linter.unusedVariables false
set_option linter.unusedSimpArgs false

section
variable {w W : World} {qa : Nat} {s : St} {q : Q}
theorem QI.word (H : QI w qa s q W) :
    Calls Tryz.prog 13 #[.pointer (some ⟨w.heap.size + 1 + 1, 0, none⟩), .pointer (some ⟨w.heap.size + 1 + 1 + 1, 0, none⟩)] W fun e W' => e = .returned (.string s.head) ∧ QI w qa s.word q W' :=
  (word_any H.st).mono fun e W' ⟨he, hp, hf⟩ => ⟨he, H.clos hp hf⟩
theorem QI.name (H : QI w qa s q W) :
    Calls Tryz.prog 14 #[.pointer (some ⟨w.heap.size + 1 + 1 + 1 + 1, 0, none⟩), .pointer (some ⟨w.heap.size + 1 + 1 + 1, 0, none⟩)] W fun e W' => e = .returned (.string s.head) ∧ QI w qa s.name q W' :=
  (clname_any H.st).mono fun e W' ⟨he, hp, hf⟩ => ⟨he, H.clos hp hf⟩
theorem QI.is (H : QI w qa s q W) (t : ByteArray) :
    Calls Tryz.prog 16 #[.string t, .pointer (some ⟨w.heap.size + 1 + 1, 0, none⟩)] W fun e W' => e = .returned (.bool (s.isW t)) ∧ QI w qa (s.after t) q W' := by
  refine (is_any t H.st).mono fun e W' ⟨he, hp, hf⟩ => ⟨he, H.clos ?_ hf⟩
  unfold St.after St.isW
  by_cases h : s.1.head? = some t
  · rw [if_pos h] at hp; simp only [decide_eq_true h, if_true]; exact hp
  · rw [if_neg h] at hp; simpa [h] using hp
theorem QI.prefix (H : QI w qa s q W) (E : Env w) (t : ByteArray) :
    Calls Tryz.prog 17 #[.string t, .pointer (some ⟨w.heap.size + 1 + 1 + 1 + 1 + 1, 0, none⟩), .pointer (some ⟨w.heap.size + 1 + 1 + 1 + 1, 0, none⟩), .pointer (some ⟨w.heap.size + 1 + 1 + 1, 0, none⟩)] W fun e W' =>
      e = .returned (.agg #[.int .u32 (s.preV t).1, .int .i64 (s.preV t).2]) ∧ QI w qa (s.pre t) q W' := by
  have hm := E.many
  unfold St.preV St.pre
  by_cases h : s.1.head? = some t
  · rw [if_pos h, if_pos h]
    exact (pre_yes t H.st h (H.env E) (by omega) (by omega)).mono fun e W' ⟨he, hp, hf⟩ => ⟨he, H.clos hp hf⟩
  · rw [if_neg h, if_neg h]
    exact (pre_no t H.st h).mono fun e W' ⟨he, hp, hf⟩ => ⟨he, H.clos hp hf⟩
theorem QI.prefixFrom (H : QI w qa s q W) (E : Env w) :
    Calls Tryz.prog 17 #[.string ⟨#[102, 114, 111, 109]⟩, .pointer (some ⟨w.heap.size + 1 + 1 + 1 + 1 + 1, 0, none⟩), .pointer (some ⟨w.heap.size + 1 + 1 + 1 + 1, 0, none⟩), .pointer (some ⟨w.heap.size + 1 + 1 + 1, 0, none⟩)] W fun e W' =>
      e = .returned (.agg #[.int .u32 (s.preV wFrom).1, .int .i64 (s.preV wFrom).2]) ∧ QI w qa (s.pre wFrom) q W' := H.prefix E wFrom
theorem QI.prefixTo (H : QI w qa s q W) (E : Env w) :
    Calls Tryz.prog 17 #[.string ⟨#[116, 111]⟩, .pointer (some ⟨w.heap.size + 1 + 1 + 1 + 1 + 1, 0, none⟩), .pointer (some ⟨w.heap.size + 1 + 1 + 1 + 1, 0, none⟩), .pointer (some ⟨w.heap.size + 1 + 1 + 1, 0, none⟩)] W fun e W' =>
      e = .returned (.agg #[.int .u32 (s.preV wTo).1, .int .i64 (s.preV wTo).2]) ∧ QI w qa (s.pre wTo) q W' := H.prefix E wTo
theorem QI.isProto (H : QI w qa s q W) :
    Calls Tryz.prog 16 #[.string ⟨#[112, 114, 111, 116, 111]⟩, .pointer (some ⟨w.heap.size + 1 + 1, 0, none⟩)] W fun e W' => e = .returned (.bool (s.isW wProto)) ∧ QI w qa (s.after wProto) q W' := H.is wProto
theorem QI.isSports (H : QI w qa s q W) :
    Calls Tryz.prog 16 #[.string ⟨#[115, 112, 111, 114, 116, 115]⟩, .pointer (some ⟨w.heap.size + 1 + 1, 0, none⟩)] W fun e W' => e = .returned (.bool (s.isW wSports)) ∧ QI w qa (s.after wSports) q W' := H.is wSports
theorem QI.isDports (H : QI w qa s q W) :
    Calls Tryz.prog 16 #[.string ⟨#[100, 112, 111, 114, 116, 115]⟩, .pointer (some ⟨w.heap.size + 1 + 1, 0, none⟩)] W fun e W' => e = .returned (.bool (s.isW wDports)) ∧ QI w qa (s.after wDports) q W' := H.is wDports
theorem QI.isVrf (H : QI w qa s q W) :
    Calls Tryz.prog 16 #[.string ⟨#[118, 114, 102]⟩, .pointer (some ⟨w.heap.size + 1 + 1, 0, none⟩)] W fun e W' => e = .returned (.bool (s.isW wVrf)) ∧ QI w qa (s.after wVrf) q W' := H.is wVrf
theorem QI.cellW (H : QI w qa s q W) : W.cell? ⟨w.heap.size + 1 + 1 + 1 + 1, 0, none⟩ = some (.func (.func 13) #[] #[.pointer (some ⟨w.heap.size + 1 + 1, 0, none⟩), .pointer (some ⟨w.heap.size + 1 + 1 + 1, 0, none⟩)]) := cell_of_one H.st.word
theorem QI.cellI (H : QI w qa s q W) : W.cell? ⟨w.heap.size + 1 + 1 + 1 + 1 + 1, 0, none⟩ = some (.func (.func 16) #[] #[.pointer (some ⟨w.heap.size + 1 + 1, 0, none⟩)]) := cell_of_one H.st.is
theorem QI.cellB (H : QI w qa s q W) : W.cell? ⟨w.heap.size + 1 + 1 + 1, 0, none⟩ = some (.bool s.2) := cell_of_one H.st.flag
theorem QI.freeB (H : QI w qa s q W) : W.frozen? ⟨w.heap.size + 1 + 1 + 1, 0, none⟩ = false := free_of_one H.st.flag
theorem QI.cellR (H : QI w qa s q W) : ∃ A c, W.cell? ⟨w.heap.size + 1 + 1, 0, none⟩ = some (.slice A s.1.length c) ∧ W.frozen? ⟨w.heap.size + 1 + 1, 0, none⟩ = false ∧ s.1.length ≤ c ∧ c ≤ 1099511627776 ∧ SS W A s.1 := by
  obtain ⟨A, c, hr, h1, h2, h3⟩ := H.st.rest
  exact ⟨A, c, cell_of_one hr, free_of_one hr, h1, h2, h3⟩
theorem QI.small (H : QI w qa s q W) : s.head.size ≤ 16777216 := head_small H.st
theorem QI.ne (H : QI w qa s q W) : qa ≠ w.heap.size + 1 + 1 + 1 ∧ qa ≠ w.heap.size + 1 + 1 ∧ qa ≠ w.heap.size := by have := H.far; omega
theorem QI.lt (H : QI w qa s q W) : qa < W.heap.size ∧ w.heap.size + 1 + 1 + 1 < W.heap.size ∧ w.heap.size + 1 + 1 < W.heap.size := ⟨lt_of_block H.q, lt_of_block H.st.flag, by obtain ⟨A, c, hr, _⟩ := H.st.rest; exact lt_of_block hr⟩
theorem QI.cKind (H : QI w qa s q W) : W.cell? ⟨qa, 0, none⟩ = some (.int .u8 q.kind) := H.cells 0
theorem QI.cDev (H : QI w qa s q W) : W.cell? ⟨qa, 1, none⟩ = some (.string q.dev) := H.cells 1
theorem QI.cIfc (H : QI w qa s q W) : W.cell? ⟨qa, 2, none⟩ = some (.string q.ifc) := H.cells 2
theorem QI.cVrf (H : QI w qa s q W) : W.cell? ⟨qa, 3, none⟩ = some (.string q.vrf) := H.cells 3
theorem QI.cEnd (H : QI w qa s q W) : W.cell? ⟨qa, 4, none⟩ = some (.int .u8 q.en) := H.cells 4
theorem QI.cProto (H : QI w qa s q W) : W.cell? ⟨qa, 6, none⟩ = some (.int .i64 q.proto) := H.cells 6
theorem QI.cSrc (H : QI w qa s q W) : W.cell? ⟨qa, 7, none⟩ = some (.int .u32 q.src) := H.cells 7
theorem QI.cSb (H : QI w qa s q W) : W.cell? ⟨qa, 8, none⟩ = some (.int .i64 q.sbits) := H.cells 8
theorem QI.cDst (H : QI w qa s q W) : W.cell? ⟨qa, 9, none⟩ = some (.int .u32 q.dst) := H.cells 9
theorem QI.cDb (H : QI w qa s q W) : W.cell? ⟨qa, 10, none⟩ = some (.int .i64 q.dbits) := H.cells 10
theorem QI.cSlo (H : QI w qa s q W) : W.cell? ⟨qa, 11, none⟩ = some (.int .u32 q.slo) := H.cells 11
theorem QI.cShi (H : QI w qa s q W) : W.cell? ⟨qa, 12, none⟩ = some (.int .u32 q.shi) := H.cells 12
theorem QI.cDlo (H : QI w qa s q W) : W.cell? ⟨qa, 13, none⟩ = some (.int .u32 q.dlo) := H.cells 13
theorem QI.cDhi (H : QI w qa s q W) : W.cell? ⟨qa, 14, none⟩ = some (.int .u32 q.dhi) := H.cells 14
theorem QI.cH0 (H : QI w qa s q W) : W.cell? ⟨qa, 15, none⟩ = some (.int .u32 q.hd.src) := H.cells 15
theorem QI.cH1 (H : QI w qa s q W) : W.cell? ⟨qa, 16, none⟩ = some (.int .u32 q.hd.dst) := H.cells 16
theorem QI.cH2 (H : QI w qa s q W) : W.cell? ⟨qa, 17, none⟩ = some (.int .u8 q.hd.proto) := H.cells 17
theorem QI.cH3 (H : QI w qa s q W) : W.cell? ⟨qa, 18, none⟩ = some (.int .u16 q.hd.sport) := H.cells 18
theorem QI.cH4 (H : QI w qa s q W) : W.cell? ⟨qa, 19, none⟩ = some (.int .u16 q.hd.dport) := H.cells 19
theorem QI.cHops (H : QI w qa s q W) : W.cell? ⟨qa, 20, none⟩ = some (.int .i64 q.hops) := H.cells 20
theorem QI.cAddr (H : QI w qa s q W) : W.cell? ⟨qa, 21, none⟩ = some (.int .u32 q.addr) := H.cells 21
theorem QI.there (H : QI w qa s q W) (o n : Nat) (h : o + n ≤ 22) : W.there qa o n := fun j hj => by
  refine ⟨?_, free_at H.q _⟩
  rw [cell_at H.q]
  have : o + j < q.cells.size := by show o + j < 22; omega
  simp [this]
theorem QI.setRule (H : QI w qa s q W) (p : Bool) (a b c d e f g h i : Int) :
    QI w qa s { q with permit := p, proto := a, src := b, sbits := c, dst := d, dbits := e, slo := f, shi := g, dlo := h, dhi := i }
      (W.setCells qa 5 [.bool p, .int .i64 a, .int .u32 b, .int .i64 c, .int .u32 d, .int .i64 e, .int .u32 f, .int .u32 g, .int .u32 h, .int .u32 i]) :=
  (((((((((H.set (q' := { q with permit := p }) 5 _ rfl).set (q' := { q with permit := p, proto := a }) 6 _ rfl).set (q' := { q with permit := p, proto := a, src := b }) 7 _ rfl).set
    (q' := { q with permit := p, proto := a, src := b, sbits := c }) 8 _ rfl).set (q' := { q with permit := p, proto := a, src := b, sbits := c, dst := d }) 9 _ rfl).set
    (q' := { q with permit := p, proto := a, src := b, sbits := c, dst := d, dbits := e }) 10 _ rfl).set (q' := { q with permit := p, proto := a, src := b, sbits := c, dst := d, dbits := e, slo := f }) 11 _ rfl).set
    (q' := { q with permit := p, proto := a, src := b, sbits := c, dst := d, dbits := e, slo := f, shi := g }) 12 _ rfl).set
    (q' := { q with permit := p, proto := a, src := b, sbits := c, dst := d, dbits := e, slo := f, shi := g, dlo := h }) 13 _ rfl).set
    (q' := { q with permit := p, proto := a, src := b, sbits := c, dst := d, dbits := e, slo := f, shi := g, dlo := h, dhi := i }) 14 _ rfl
theorem QI.setNames (H : QI w qa s q W) (x y : ByteArray) : QI w qa s { q with dev := x, ifc := y } ((W.setCell ⟨qa, 1, none⟩ (.string x)).setCell ⟨qa, 2, none⟩ (.string y)) :=
  (H.set (q' := { q with dev := x }) 1 _ rfl).set (q' := { q with dev := x, ifc := y }) 2 _ rfl
theorem QI.setEnd (H : QI w qa s q W) (n : Int) : QI w qa s { q with en := n } (W.setCell ⟨qa, 4, none⟩ (.int .u8 n)) := H.set 4 _ rfl
theorem QI.setPres (H : QI w qa s q W) (a b c d : Int) : QI w qa s { q with src := a, sbits := b, dst := c, dbits := d }
    ((((W.setCell ⟨qa, 7, none⟩ (.int .u32 a)).setCell ⟨qa, 8, none⟩ (.int .i64 b)).setCell ⟨qa, 9, none⟩ (.int .u32 c)).setCell ⟨qa, 10, none⟩ (.int .i64 d)) :=
  (((H.set (q' := { q with src := a }) 7 _ rfl).set (q' := { q with src := a, sbits := b }) 8 _ rfl).set (q' := { q with src := a, sbits := b, dst := c }) 9 _ rfl).set
    (q' := { q with src := a, sbits := b, dst := c, dbits := d }) 10 _ rfl
theorem QI.setProto (H : QI w qa s q W) (n : Int) : QI w qa s { q with proto := n } (W.setCell ⟨qa, 6, none⟩ (.int .i64 n)) := H.set 6 _ rfl
theorem QI.setSports (H : QI w qa s q W) (a b : Int) : QI w qa s { q with slo := a, shi := b } ((W.setCell ⟨qa, 11, none⟩ (.int .u32 a)).setCell ⟨qa, 12, none⟩ (.int .u32 b)) :=
  (H.set (q' := { q with slo := a }) 11 _ rfl).set (q' := { q with slo := a, shi := b }) 12 _ rfl
theorem QI.setDports (H : QI w qa s q W) (a b : Int) : QI w qa s { q with dlo := a, dhi := b } ((W.setCell ⟨qa, 13, none⟩ (.int .u32 a)).setCell ⟨qa, 14, none⟩ (.int .u32 b)) :=
  (H.set (q' := { q with dlo := a }) 13 _ rfl).set (q' := { q with dlo := a, dhi := b }) 14 _ rfl
theorem after_yes {s : St} {t : ByteArray} (h : s.isW t = true) : s.after t = s.skip := by unfold St.after; rw [if_pos h]
theorem after_no {s : St} {t : ByteArray} (h : s.isW t = false) : s.after t = s := by unfold St.after; rw [h]; rfl
theorem stA4_no {s : St} (h : s.isW wProto = false) : stA4 s = s := by unfold stA4; rw [h]; rfl
theorem qA4_no {s : St} {q : Q} (h : s.isW wProto = false) : qA4 s q = q := by unfold qA4; rw [h]; rfl
theorem stA5_no {s : St} (h : s.isW wSports = false) : stA5 s = s := by unfold stA5; rw [h]; rfl
theorem qA5_no {s : St} {q : Q} (h : s.isW wSports = false) : qA5 s q = q := by unfold qA5; rw [h]; rfl
theorem stA6_no {s : St} (h : s.isW wDports = false) : stA6 s = s := by unfold stA6; rw [h]; rfl
theorem qA6_no {s : St} {q : Q} (h : s.isW wDports = false) : qA6 s q = q := by unfold qA6; rw [h]; rfl
theorem stA4_yes {s : St} {ok : Bool} (h : s.isW wProto = true) (h2 : (num (s.after wProto).head 255).isSome = ok) : stA4 s = ((s.after wProto).word).bad (!ok) := by unfold stA4; rw [h, h2]; rfl
theorem qA4_yes {s : St} {q : Q} {v : Int} (h : s.isW wProto = true) (h2 : (num (s.after wProto).head 255).getD 0 = v) : qA4 s q = { q with proto := v } := by unfold qA4; rw [h, h2]; rfl
theorem stA5_yes {s : St} {ok : Bool} (h : s.isW wSports = true) (h2 : (pPorts (s.after wSports).head).isSome = ok) : stA5 s = ((s.after wSports).word).bad (!ok) := by unfold stA5; rw [h, h2]; rfl
theorem qA5_yes {s : St} {q : Q} {a b : Int} (h : s.isW wSports = true) (h2 : portV (s.after wSports).head = (a, b)) : qA5 s q = { q with slo := a, shi := b } := by unfold qA5; rw [h, h2]; rfl
theorem stA6_yes {s : St} {ok : Bool} (h : s.isW wDports = true) (h2 : (pPorts (s.after wDports).head).isSome = ok) : stA6 s = ((s.after wDports).word).bad (!ok) := by unfold stA6; rw [h, h2]; rfl
theorem qA6_yes {s : St} {q : Q} {a b : Int} (h : s.isW wDports = true) (h2 : portV (s.after wDports).head = (a, b)) : qA6 s q = { q with dlo := a, dhi := b } := by unfold qA6; rw [h, h2]; rfl
theorem ports_as {s : ByteArray} {p : Int × Int} {ok : Bool} (h : portV s = p) (h' : (pPorts s).isSome = ok) (hs : s.size ≤ 16777216) {w : World} (E : Env w) :
    Calls Tryz.prog 22 #[.string s] w fun e w' => e = .returned (.tuple #[.agg #[.int .u32 p.1, .int .u32 p.2], .bool ok]) ∧ Below w.heap.size w w' := by
  subst h; subst h'
  exact ports_any s hs E
end
end Go.Proofs.YtopccnoinngmbaaGreatDoor

/- ask.Parse walked. -/
namespace Go.Proofs.YtopccnoinngmbaaGreatDoor
open Go.RowKit
set_option maxRecDepth 100000
set_option maxHeartbeats 8000000
set_option linter.unusedVariables false
set_option linter.unusedSimpArgs false

theorem Q.one (q : Q) : q.cells.all (·.oneCell') = true := by simp [Q.cells, Value.oneCell']
/-- The memory behind ask.Parse's first statements. -/
def WP (w : World) (ws : List ByteArray) (n : Nat) : World :=
  (((((w.alloc (.cells Q.zero.cells 34)).alloc (.cells (ws.map Value.string).toArray 9)).alloc (.cells #[.slice (some ⟨w.heap.size + 1, 0, none⟩) n n] 51)).alloc (.cells #[.bool false] 4)).alloc
    (.cells #[.func (.func 13) #[] #[.pointer (some ⟨w.heap.size + 1 + 1, 0, none⟩), .pointer (some ⟨w.heap.size + 1 + 1 + 1, 0, none⟩)]] 53)).alloc
    (.cells #[.func (.func 16) #[] #[.pointer (some ⟨w.heap.size + 1 + 1, 0, none⟩)]] 54)
theorem size_alloc (w : World) (o : Obj) : (w.alloc o).heap.size = w.heap.size + 1 := by show (w.heap.push o).size = _; simp
theorem at_alloc {w : World} {o : Obj} {k : Nat} (h : k = w.heap.size) : (w.alloc o).heap[k]? = some o := by subst h; exact heap_alloc_new w o
theorem WP_below (w : World) (ws : List ByteArray) (n : Nat) : Below w.heap.size w (WP w ws n) :=
  below_seq (below_seq (below_seq (below_seq (below_seq (below_new w _) (below_new _ _)) (below_new _ _)) (below_new _ _)) (below_new _ _)) (below_new _ _)
theorem WP_res (w : World) (ws : List ByteArray) (n : Nat) : (WP w ws n).heap[w.heap.size]? = some (.cells Q.zero.cells 34 (0, 0)) :=
  kept_old (below_new _ _) (kept_old (below_new _ _) (kept_old (below_new _ _) (kept_old (below_new _ _) (kept_old (below_new _ _) (heap_alloc_new _ _)))))
theorem WP_st (w : World) (ws : List ByteArray) (n : Nat) (hn : ws.length = n) (hb : n ≤ 1099511627776) (hs : ∀ x ∈ ws, x.size ≤ 16777216) :
    PSt (WP w ws n) (w.heap.size + 1 + 1) (w.heap.size + 1 + 1 + 1) (w.heap.size + 1 + 1 + 1 + 1) (w.heap.size + 1 + 1 + 1 + 1 + 1) ws false := by
  subst hn
  have b2 := fun (W : World) (o : Obj) => below_new W o
  refine ⟨⟨some ⟨w.heap.size + 1, 0, none⟩, ws.length, ?_, Nat.le_refl _, hb, .inr ⟨w.heap.size + 1, 0, (ws.map Value.string).toArray, (0, 0), rfl, ?_, ?_⟩⟩, ?_, ?_, ?_, hs⟩
  · exact kept_old (b2 _ _) (kept_old (b2 _ _) (kept_old (b2 _ _) (at_alloc (by simp only [size_alloc]))))
  · exact kept_old (b2 _ _) (kept_old (b2 _ _) (kept_old (b2 _ _) (kept_old (b2 _ _) (at_alloc (by simp only [size_alloc])))))
  · intro j x hj; simp [hj]
  · exact kept_old (b2 _ _) (kept_old (b2 _ _) (at_alloc (by simp only [size_alloc])))
  · exact kept_old (b2 _ _) (at_alloc (by simp only [size_alloc]))
  · exact at_alloc (by simp only [size_alloc])

/-- The words of a text. -/
theorem spl_count (s : ByteArray) (hs : s.size ≤ 4194304) : (spl 32 s).length ≤ 1099511627776 := by
  rw [spl_length]
  have := Lib.countB_le ⟨#[32]⟩ (Nat.le_refl 1) s.size s (Nat.le_refl _)
  omega
theorem QI_start {w w2 w3 : World} {ws : List ByteArray} {n : Nat} {s0 : St} (κ : Int)
    (hp : PSt w2 (w.heap.size + 1 + 1) (w.heap.size + 1 + 1 + 1) (w.heap.size + 1 + 1 + 1 + 1) (w.heap.size + 1 + 1 + 1 + 1 + 1) s0.1 s0.2)
    (hf : Fr (RB (w.heap.size + 1 + 1) (w.heap.size + 1 + 1 + 1)) (WP w ws n) w2) (hb : Below w2.heap.size w2 w3) :
    QI w w3.heap.size s0 { Q.zero with kind := κ } ((w3.alloc (.cells #[.int .u8 0, .string ⟨#[]⟩, .string ⟨#[]⟩, .string ⟨#[]⟩, .int .u8 0, .bool false, .int .i64 0, .int .u32 0, .int .i64 0, .int .u32 0, .int .i64 0, .int .u32 0, .int .u32 0, .int .u32 0, .int .u32 0, .int .u32 0, .int .u32 0, .int .u8 0, .int .u16 0, .int .u16 0, .int .i64 0, .int .u32 0] 34)).setRow w3.heap.size #[.int .u8 κ, .string ⟨#[]⟩, .string ⟨#[]⟩, .string ⟨#[]⟩, .int .u8 0, .bool false, .int .i64 0, .int .u32 0, .int .i64 0, .int .u32 0, .int .i64 0, .int .u32 0, .int .u32 0, .int .u32 0, .int .u32 0, .int .u32 0, .int .u32 0, .int .u8 0, .int .u16 0, .int .u16 0, .int .i64 0, .int .u32 0]) := by
  have b0 := WP_below w ws n
  have z0 : (WP w ws n).heap.size = w.heap.size + 1 + 1 + 1 + 1 + 1 + 1 := by unfold WP; simp only [size_alloc]
  have z2 := hf.size
  have z3 := hb.size
  have hf3 := hf.trans (Fr.of_below hb)
  have b3 : Below w.heap.size w w3 := hf3.belowAt b0 b0.size (fun k hk => by rcases hk with e | e <;> omega)
  have p3 := hp.frame hb.block
  have r3 := hf3.kept (WP_res w ws n) (fun hk => by rcases hk with e | e <;> omega)
  have keep : ∀ (o : Obj) (cs : Array Value) (k : Nat), k < w3.heap.size → ((w3.alloc o).setRow w3.heap.size cs).heap[k]? = w3.heap[k]? := fun o cs k hk => by
    show ((w3.heap.push o).modify w3.heap.size _)[k]? = _
    rw [Array.getElem?_modify, if_neg (by omega), Array.getElem?_push, if_neg (by omega)]
  have hsz : ∀ (o : Obj) (cs : Array Value), ((w3.alloc o).setRow w3.heap.size cs).heap.size = w3.heap.size + 1 := fun o cs => by
    show ((w3.heap.push o).modify w3.heap.size _).size = _
    simp
  refine ⟨⟨b3.os, b3.tape, b3.output, by rw [hsz]; omega, fun k hk => (keep _ _ k (by omega)).trans (b3.block k hk)⟩, (keep _ _ _ (lt_of_block r3)).trans r3, p3.frame (fun k hk => keep _ _ k hk), ?_, by omega⟩
  exact setRow_heap _ _ Q.zero.cells _ 34 (0, 0) (heap_alloc_new _ _)
theorem wp_setRule {w W : World} {qa : Nat} {s : St} {q : Q} {ops : Array Oper} {rest : List Oper} {o : Oper} {a : Act} {Qp : Exit → Act → World → Prop} {p : Bool} {b c d e f g h i j : Int} (hgd : o.guard = none) (x y : Operand) (ho : o.op = .store 29 x y) (hd : o.dst = none)
    (hx : a.eval x = .pointer (some ⟨qa, 5, none⟩)) (hy : a.eval y = .agg #[.bool p, .int .i64 b, .int .u32 c, .int .i64 d, .int .u32 e, .int .i64 f, .int .u32 g, .int .u32 h, .int .u32 i, .int .u32 j]) (H : QI w qa s q W)
    (k : ∀ W', QI w qa s { q with permit := p, proto := b, src := c, sbits := d, dst := e, dbits := f, slo := g, shi := h, dlo := i, dhi := j } W' → wpList Tryz.prog ops Qp rest a W') : wpList Tryz.prog ops Qp (o :: rest) a W := by
  refine wpList_store_mid (P := Tryz.prog) hgd 29 x y ho qa 5 _ hx hy (H.there 5 10 (by omega)) (by kernel_rfl) (by simp [Value.oneCell']) ?_
  rw [hd]
  exact k _ (H.setRule p b c d e f g h i j)
/-- What ask.Parse answers. -/
def outQ (s : St) (q : Q) : Value := if s.2 || !s.1.isEmpty then .tuple #[.agg Q.zero.cells, .int .i64 4] else .tuple #[.agg q.cells, .int .i64 0]
/-- The statements of the kinds 1 to 3 behind the end. -/
def run3 (s : St) (q : Q) : Value := outQ (stA6 (stA5 (stA4 (stA3 s)))) (qA6 (stA5 (stA4 (stA3 s))) (qA5 (stA4 (stA3 s)) (qA4 (stA3 s) (qA3 s q))))
theorem outQ_bad {s : St} (q : Q) (h : s.2 = true) : outQ s q = .tuple #[.agg Q.zero.cells, .int .i64 4] := by unfold outQ; rw [h]; rfl
theorem outQ_left {s : St} (q : Q) (h : 0 < s.1.length) : outQ s q = .tuple #[.agg Q.zero.cells, .int .i64 4] := by
  unfold outQ
  cases hs : s.1 with
  | nil => rw [hs] at h; exact absurd h (by decide)
  | cons x xs => simp
theorem outQ_ok {s : St} (q : Q) (h : s.2 = false) (h2 : s.1.length = 0) : outQ s q = .tuple #[.agg q.cells, .int .i64 0] := by
  unfold outQ
  rw [List.length_eq_zero_iff.1 h2, h]; rfl
theorem results4_row {tmps : Array Value} {w : World} {g : Nat} {cs : Array Value} {fr : Nat × Nat} {e : Int} (h2 : tmps.getD 2 undef = .pointer (some ⟨g, 0, none⟩)) (h3 : tmps.getD 3 undef = .int .i64 e)
    (hg : w.heap[g]? = some (.cells cs 34 fr)) (hs : cs.size = 22) : (results Tryz.f4 tmps).run Tryz.prog w = .ok (.tuple #[.agg cs, .int .i64 e]) w := by
  rw [results_cell_tmp Tryz.results4, h2, h3]
  have := run_loadVar_row (P := Tryz.prog) w g 34 34 cs fr _ hg rfl rfl (by rw [hs]; kernel_rfl)
  simp [asAddr, this]
theorem QI.res_bel {w W : World} {qa : Nat} {s : St} {q : Q} (H : QI w qa s q W) (cs : Array Value) : Below w.heap.size w (W.setRow w.heap.size cs) := below_setRow H.bel (Nat.le_refl _) cs
theorem QI.res_row {w W : World} {qa : Nat} {s : St} {q : Q} (H : QI w qa s q W) (cs : Array Value) : (W.setRow w.heap.size cs).heap[w.heap.size]? = some (.cells cs 34 (0, 0)) := setRow_heap _ _ _ _ _ _ H.res
end Go.Proofs.YtopccnoinngmbaaGreatDoor

/- ask.Parse walked: the pieces of its code -/
namespace Go.Proofs.YtopccnoinngmbaaGreatDoor
open Go.RowKit
set_option maxRecDepth 100000
set_option maxHeartbeats 16000000
set_option linter.unusedVariables false
set_option linter.unusedSimpArgs false

/-- The first sequence whose first region is this one. -/
def headIs (n : Nat) : Code → Bool
  | .region m _ _ => m == n
  | .seq a _ => headIs n a
  | _ => false
def piece (n : Nat) : Code → Option Code
  | .seq a b => if headIs n a then some (.seq a b) else match piece n a with
    | some c => some c
    | none => piece n b
  | .cond _ a b => match piece n a with
    | some c => some c
    | none => piece n b
  | .block _ c => piece n c
  | .loop c => piece n c
  | .scope c => piece n c
  | _ => none
def theBlock : Code → Option Code
  | .seq a b => match theBlock a with
    | some c => some c
    | none => theBlock b
  | .block k c => some (.block k c)
  | .cond _ a b => match theBlock a with
    | some c => some c
    | none => theBlock b
  | _ => none
noncomputable def cEnd : Code := ((Tryz.f4.body.bind (piece 39)).getD .skip)
noncomputable def cTail : Code := ((Tryz.f4.body.bind (piece 16)).getD .skip)
noncomputable def cBlock : Code := ((Tryz.f4.body.bind theBlock).getD .skip)
def Rq (w : World) (out : Value) : Ending → World → Prop := fun e w' => e = .returned out ∧ Below w.heap.size w w'
end Go.Proofs.YtopccnoinngmbaaGreatDoor
