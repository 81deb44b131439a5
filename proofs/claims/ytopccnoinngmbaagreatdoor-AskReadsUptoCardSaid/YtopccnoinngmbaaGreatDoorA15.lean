/-
  A part of the heads, as the reference reads it.
  Headers and spans written, as the reference does it.
-/
import Derived.Test.YtopccnoinngmbaaGreatDoorA13
import Derived.Test.YtopccnoinngmbaaGreatDoorA14
import Derived.Test.YtopccnoinngmbaaGreatDoorA07
import Derived.Test.YtopccnoinngmbaaGreatDoorA08

/- A part of the heads, as the reference reads it. -/
namespace Go.Proofs.YtopccnoinngmbaaGreatDoor
open Go.RowKit
set_option maxRecDepth 100000
set_option maxHeartbeats 16000000
set_option linter.unusedVariables false
set_option linter.unusedSimpArgs false

/-- A part of the heads read. -/
def rPart (q : Q) (t v : ByteArray) : Q × Bool :=
  if t = wFrom then ({ q with src := (preV v).1, sbits := (preV v).2 }, (pPrefix v).isSome)
  else if t = wTo then ({ q with dst := (preV v).1, dbits := (preV v).2 }, (pPrefix v).isSome)
  else if t = wProto then ({ q with proto := (num v 255).getD (-1) }, decide (0 ≤ (num v 255).getD (-1)))
  else if t = wSports then ({ q with slo := (rPv v).1, shi := (rPv v).2 }, rPo v)
  else if t = wDports then ({ q with dlo := (rPv v).1, dhi := (rPv v).2 }, rPo v)
  else (q, false)
/-- A question in the reference's memory. -/
structure RQ (qa : Nat) (q : Q) (W : World) : Prop where
  h : W.heap[qa]? = some (.cells q.cells 41 (0, 0))
/-- What the reference's part leaves. -/
def PartPost (W : World) (qa : Nat) (q : Q) (b : Bool) (e : Ending) (W' : World) : Prop := e = .returned (.bool b) ∧ RQ qa q W' ∧ Fr (fun k => k = qa) W W'
section
variable {w W W1 : World} {qa : Nat} {q q' : Q}
theorem RQ.below (H : RQ qa q W) (h : Below W.heap.size W W1) : RQ qa q W1 := ⟨kept_old h H.h⟩
theorem RQ.set (H : RQ qa q W) (j : Nat) (u : Value) (e : q.cells.setIfInBounds j u = q'.cells) : RQ qa q' (W.setCell ⟨qa, j, none⟩ u) := ⟨e ▸ block_setCell H.h j u⟩
theorem RQ.cell (H : RQ qa q W) (k : Nat) : W.cell? ⟨qa, k, none⟩ = q.cells[k]? := cell_at H.h k
theorem RQ.free (H : RQ qa q W) (k : Nat) : W.frozen? ⟨qa, k, none⟩ = false := free_at H.h k
theorem RQ.c6 (H : RQ qa q W) : W.cell? ⟨qa, 6, none⟩ = some (.int .i64 q.proto) := H.cell 6
theorem RQ.c7 (H : RQ qa q W) : W.cell? ⟨qa, 7, none⟩ = some (.int .u32 q.src) := H.cell 7
theorem RQ.c8 (H : RQ qa q W) : W.cell? ⟨qa, 8, none⟩ = some (.int .i64 q.sbits) := H.cell 8
theorem RQ.c9 (H : RQ qa q W) : W.cell? ⟨qa, 9, none⟩ = some (.int .u32 q.dst) := H.cell 9
theorem RQ.c10 (H : RQ qa q W) : W.cell? ⟨qa, 10, none⟩ = some (.int .i64 q.dbits) := H.cell 10
theorem RQ.c11 (H : RQ qa q W) : W.cell? ⟨qa, 11, none⟩ = some (.int .u32 q.slo) := H.cell 11
theorem RQ.c12 (H : RQ qa q W) : W.cell? ⟨qa, 12, none⟩ = some (.int .u32 q.shi) := H.cell 12
theorem RQ.c13 (H : RQ qa q W) : W.cell? ⟨qa, 13, none⟩ = some (.int .u32 q.dlo) := H.cell 13
theorem RQ.c14 (H : RQ qa q W) : W.cell? ⟨qa, 14, none⟩ = some (.int .u32 q.dhi) := H.cell 14
end
theorem prefix_as {v : ByteArray} {a b : Int} {ok : Bool} (h : preV v = (a, b)) (hk : (pPrefix v).isSome = ok) (hs : v.size ≤ 16777216) (w : World) :
    Calls Tryz.prog 60 #[.string v] w fun e w' => (∃ er : Int, e = .returned (.tuple #[.agg #[.int .u32 a, .int .i64 b], .int .i64 er]) ∧ (er == 0) = ok) ∧ Below w.heap.size w w' := by
  refine (parsePrefix01_any v hs w).mono fun e w' ⟨he, hb⟩ => ⟨?_, hb⟩
  obtain ⟨x, y, er, rfl, h1 | h1⟩ := he
  · obtain ⟨h1, rfl⟩ := h1
    rw [preV, h1] at h
    rw [h1] at hk
    cases h; subst hk
    exact ⟨0, rfl, rfl⟩
  · obtain ⟨h1, h2, rfl, rfl⟩ := h1
    rw [preV, h1] at h
    rw [h1] at hk
    cases h; subst hk
    exact ⟨er, rfl, by simpa using h2⟩
theorem fr_two {W w2 : World} {qa : Nat} (h : Below W.heap.size W w2) (i j : Nat) (u v : Value) : Fr (fun k => k = qa) W ((w2.setCell ⟨qa, i, none⟩ u).setCell ⟨qa, j, none⟩ v) :=
  ((Fr.of_below h).trans (Fr.setCell (fun k => k = qa) w2 (p := ⟨qa, i, none⟩) rfl u)).trans (Fr.setCell (fun k => k = qa) _ (p := ⟨qa, j, none⟩) rfl v)
theorem fr_one {W w2 : World} {qa : Nat} (h : Below W.heap.size W w2) (i : Nat) (u : Value) : Fr (fun k => k = qa) W (w2.setCell ⟨qa, i, none⟩ u) :=
  (Fr.of_below h).trans (Fr.setCell (fun k => k = qa) w2 (p := ⟨qa, i, none⟩) rfl u)
theorem ports_as61 {v : ByteArray} {a b : Int} {ok : Bool} (h : rPv v = (a, b)) (hk : rPo v = ok) (hs : v.size ≤ 16777216) (w : World) :
    Calls Tryz.prog 61 #[.string v] w fun e w' => e = .returned (.tuple #[.agg #[.int .u32 a, .int .u32 b], .bool ok]) ∧ Below w.heap.size w w' := by
  have := ports61_any v hs w
  rw [h, hk] at this
  exact this
theorem part_from (qa : Nat) (q : Q) (v : ByteArray) (hs : v.size ≤ 16777216) {W : World} (H : RQ qa q W) :
    Calls Tryz.prog 30 #[.pointer (some ⟨qa, 5, none⟩), .string wFrom, .string v] W (PartPost W qa { q with src := (preV v).1, sbits := (preV v).2 } (pPrefix v).isSome) := by
  obtain ⟨a, b, hp⟩ : ∃ a b, preV v = (a, b) := ⟨_, _, rfl⟩
  obtain ⟨ok, hk⟩ : ∃ ok, (pPrefix v).isSome = ok := ⟨_, rfl⟩
  have hc := fun w => prefix_as hp hk hs w
  rw [hk, hp]
  clear hp hk
  have hlt := lt_of_block H.h
  unfold wFrom
  go_enter Tryz.func30, Tryz.ntmps30
  go_wp2_with (go_at_call 60; refine (hc _).mono ?_; rintro e w1 ⟨⟨er, rfl, her⟩, hb1⟩; have H1 := H.below hb1; have H2 := H1.below (below_new w1 (.cells #[.int .u32 a, .int .i64 b] 25)); have hz := hb1.size; have c7 := H2.c7; have c8 := H2.c8; have f7 := H2.free 7; have f8 := H2.free 8)
  go_ret
  exact ⟨rfl, (H2.set (q' := { q with src := a }) 7 (.int .u32 a) rfl).set 8 (.int .i64 b) rfl, fr_two (below_seq hb1 (below_new _ _)) _ _ _ _⟩
theorem part_to (qa : Nat) (q : Q) (v : ByteArray) (hs : v.size ≤ 16777216) {W : World} (H : RQ qa q W) :
    Calls Tryz.prog 30 #[.pointer (some ⟨qa, 5, none⟩), .string wTo, .string v] W (PartPost W qa { q with dst := (preV v).1, dbits := (preV v).2 } (pPrefix v).isSome) := by
  obtain ⟨a, b, hp⟩ : ∃ a b, preV v = (a, b) := ⟨_, _, rfl⟩
  obtain ⟨ok, hk⟩ : ∃ ok, (pPrefix v).isSome = ok := ⟨_, rfl⟩
  have hc := fun w => prefix_as hp hk hs w
  rw [hk, hp]
  clear hp hk
  have hlt := lt_of_block H.h
  unfold wTo
  go_enter Tryz.func30, Tryz.ntmps30
  go_wp2_with (go_at_call 60; refine (hc _).mono ?_; rintro e w1 ⟨⟨er, rfl, her⟩, hb1⟩; have H1 := H.below hb1; have H2 := H1.below (below_new w1 (.cells #[.int .u32 a, .int .i64 b] 25)); have hz := hb1.size; have c7 := H2.c9; have c8 := H2.c10; have f7 := H2.free 9; have f8 := H2.free 10)
  go_ret
  exact ⟨rfl, (H2.set (q' := { q with dst := a }) 9 (.int .u32 a) rfl).set 10 (.int .i64 b) rfl, fr_two (below_seq hb1 (below_new _ _)) _ _ _ _⟩
theorem part_sports (qa : Nat) (q : Q) (v : ByteArray) (hs : v.size ≤ 16777216) {W : World} (H : RQ qa q W) :
    Calls Tryz.prog 30 #[.pointer (some ⟨qa, 5, none⟩), .string wSports, .string v] W (PartPost W qa { q with slo := (rPv v).1, shi := (rPv v).2 } (rPo v)) := by
  obtain ⟨a, b, hp⟩ : ∃ a b, rPv v = (a, b) := ⟨_, _, rfl⟩
  obtain ⟨ok, hk⟩ : ∃ ok, rPo v = ok := ⟨_, rfl⟩
  have hc := fun w => ports_as61 hp hk hs w
  rw [hk, hp]
  clear hp hk
  have hlt := lt_of_block H.h
  unfold wSports
  go_enter Tryz.func30, Tryz.ntmps30
  go_wp2_with (go_at_call 61; refine (hc _).mono ?_; rintro e w1 ⟨rfl, hb1⟩; have H1 := H.below hb1; have H2 := H1.below (below_new w1 (.cells #[.int .u32 a, .int .u32 b] 27)); have hz := hb1.size; have c7 := H2.c11; have c8 := H2.c12; have f7 := H2.free 11; have f8 := H2.free 12)
  go_ret
  exact ⟨rfl, (H2.set (q' := { q with slo := a }) 11 (.int .u32 a) rfl).set 12 (.int .u32 b) rfl, fr_two (below_seq hb1 (below_new _ _)) _ _ _ _⟩
theorem part_dports (qa : Nat) (q : Q) (v : ByteArray) (hs : v.size ≤ 16777216) {W : World} (H : RQ qa q W) :
    Calls Tryz.prog 30 #[.pointer (some ⟨qa, 5, none⟩), .string wDports, .string v] W (PartPost W qa { q with dlo := (rPv v).1, dhi := (rPv v).2 } (rPo v)) := by
  obtain ⟨a, b, hp⟩ : ∃ a b, rPv v = (a, b) := ⟨_, _, rfl⟩
  obtain ⟨ok, hk⟩ : ∃ ok, rPo v = ok := ⟨_, rfl⟩
  have hc := fun w => ports_as61 hp hk hs w
  rw [hk, hp]
  clear hp hk
  have hlt := lt_of_block H.h
  unfold wDports
  go_enter Tryz.func30, Tryz.ntmps30
  go_wp2_with (go_at_call 61; refine (hc _).mono ?_; rintro e w1 ⟨rfl, hb1⟩; have H1 := H.below hb1; have H2 := H1.below (below_new w1 (.cells #[.int .u32 a, .int .u32 b] 27)); have hz := hb1.size; have c7 := H2.c13; have c8 := H2.c14; have f7 := H2.free 13; have f8 := H2.free 14)
  go_ret
  exact ⟨rfl, (H2.set (q' := { q with dlo := a }) 13 (.int .u32 a) rfl).set 14 (.int .u32 b) rfl, fr_two (below_seq hb1 (below_new _ _)) _ _ _ _⟩
theorem part_proto (qa : Nat) (q : Q) (v : ByteArray) (hs : v.size ≤ 16777216) {W : World} (H : RQ qa q W) :
    Calls Tryz.prog 30 #[.pointer (some ⟨qa, 5, none⟩), .string wProto, .string v] W (PartPost W qa { q with proto := (num v 255).getD (-1) } (decide (0 ≤ (num v 255).getD (-1)))) := by
  have hc := fun w => read_any v 255 (by decide) hs w
  generalize (num v 255).getD (-1) = a at hc ⊢
  have hlt := lt_of_block H.h
  have c6 := H.c6
  have f6 := H.free 6
  unfold wProto
  go_enter Tryz.func30, Tryz.ntmps30
  go_wp2_with (go_at_call 31; refine (hc _).mono ?_; rintro e w1 ⟨rfl, rfl⟩)
  go_ret
  exact ⟨rfl, H.set 6 (.int .i64 a) rfl, fr_one (Below.refl _ _) _ _⟩
theorem lit_ne {t : ByteArray} {l : List UInt8} (h : t ≠ ⟨l.toArray⟩) : (t.toList == l) = false := by
  have := toList_ne h
  rw [ByteArray.toList_eq, ByteArray.toList_eq] at this
  rw [ByteArray.toList_eq]; simpa using this
theorem part_none (qa : Nat) (q : Q) (t v : ByteArray) (h1 : t ≠ wFrom) (h2 : t ≠ wTo) (h3 : t ≠ wProto) (h4 : t ≠ wSports) (h5 : t ≠ wDports) {W : World} (H : RQ qa q W) :
    Calls Tryz.prog 30 #[.pointer (some ⟨qa, 5, none⟩), .string t, .string v] W (PartPost W qa q false) := by
  have g1 : (t.toList == [102, 114, 111, 109]) = false := lit_ne h1
  have g2 : (t.toList == [116, 111]) = false := lit_ne h2
  have g3 : (t.toList == [112, 114, 111, 116, 111]) = false := lit_ne h3
  have g4 : (t.toList == [115, 112, 111, 114, 116, 115]) = false := lit_ne h4
  have g5 : (t.toList == [100, 112, 111, 114, 116, 115]) = false := lit_ne h5
  clear h1 h2 h3 h4 h5
  go_enter Tryz.func30, Tryz.ntmps30
  go_wp2
  go_ret
  exact ⟨rfl, H, Fr.refl _ _⟩
theorem part_any (qa : Nat) (q : Q) (t v : ByteArray) (hs : v.size ≤ 16777216) {W : World} (H : RQ qa q W) :
    Calls Tryz.prog 30 #[.pointer (some ⟨qa, 5, none⟩), .string t, .string v] W (PartPost W qa (rPart q t v).1 (rPart q t v).2) := by
  unfold rPart
  by_cases h1 : t = wFrom
  · subst h1; rw [if_pos rfl]; exact part_from qa q v hs H
  rw [if_neg h1]
  by_cases h2 : t = wTo
  · subst h2; rw [if_pos rfl]; exact part_to qa q v hs H
  rw [if_neg h2]
  by_cases h3 : t = wProto
  · subst h3; rw [if_pos rfl]; exact part_proto qa q v hs H
  rw [if_neg h3]
  by_cases h4 : t = wSports
  · subst h4; rw [if_pos rfl]; exact part_sports qa q v hs H
  rw [if_neg h4]
  by_cases h5 : t = wDports
  · subst h5; rw [if_pos rfl]; exact part_dports qa q v hs H
  rw [if_neg h5]
  exact part_none qa q t v h1 h2 h3 h4 h5 H
end Go.Proofs.YtopccnoinngmbaaGreatDoor

/- Headers and spans written, as the reference does it. -/
namespace Go.Proofs.YtopccnoinngmbaaGreatDoor
open Go.RowKit
set_option maxRecDepth 100000
set_option maxHeartbeats 16000000
set_option linter.unusedVariables false
set_option linter.unusedSimpArgs false

theorem span71_any (a b : Int) (h0 : 0 ≤ a) (h1 : a < 4294967296) (b0 : 0 ≤ b) (b1 : b < 4294967296) (w : World) :
    Calls Tryz.prog 71 #[.agg #[.int .u32 a, .int .u32 b]] w fun e w' => e = .returned (.string ⟨(textS a b).toArray⟩) ∧ Below w.heap.size w w' := by
  go_enter Tryz.func71, Tryz.ntmps71
  go_wp2
  have l1 := itoa_len (n := a) (by omega) (by omega)
  have l2 := itoa_len (n := b) (by omega) (by omega)
  have l3 : ¬ 9223372036854775807 < (Lib.itoa a).length + 1 := by omega
  have l4 : ¬ 9223372036854775807 < (Lib.itoa a).length + 1 + (Lib.itoa b).length := by omega
  have w1 : IntKind.i64.wrap a = a := IntWalk.i64_in _ (by omega)
  have w2 : IntKind.i64.wrap b = b := IntWalk.i64_in _ (by omega)
  have s2 : Below (w.alloc (.cells #[.int .u32 a, .int .u32 b] 27)).heap.size (w.alloc (.cells #[.int .u32 a, .int .u32 b] 27)) (w.alloc (.cells #[.int .u32 a, .int .u32 b] 27)).drew := (Below.refl _ _).drew
  have s0 := (two_of (kept_new s2)).1
  have s1 := (two_of (kept_new s2)).2.1
  go_region_held3 (fun w' => w'.cell? ⟨w.heap.size, 0, none⟩ = some (.int .u32 a) ∧ w'.cell? ⟨w.heap.size, 1, none⟩ = some (.int .u32 b) ∧ Below (w.alloc (.cells #[.int .u32 a, .int .u32 b] 27)).heap.size (w.alloc (.cells #[.int .u32 a, .int .u32 b] 27)) w')
    (first | exact ⟨s0, s1, s2⟩ | (go_split_ands; (try dsimp only); (repeat' apply And.intro); all_goals (have hq : Below (w.alloc (.cells #[.int .u32 a, .int .u32 b] 27)).heap.size (w.alloc (.cells #[.int .u32 a, .int .u32 b] 27)) _ := below_seq (by assumption) hb1; first | exact (two_of (kept_new hq)).1 | exact (two_of (kept_new hq)).2.1 | exact hq)) | go_keep)
    (first | (go_at_call 45; (with_reducible refine (number01_any a (by omega) (by omega)).mono ?_); rintro e w1 ⟨rfl, hb1⟩) | (go_at_call 45; (with_reducible refine (number01_any b (by omega) (by omega)).mono ?_); rintro e w1 ⟨rfl, hb1⟩))
  go_wp2
  go_ret
  go_split_ands
  exact ⟨ret_str (by simp [textS]), below_seq (below_new w _) (by assumption)⟩
theorem headText03_any (h : Hd) (ok : h.Ok) (w : World) :
    Calls Tryz.prog 47 #[.agg #[.int .u32 h.src, .int .u32 h.dst, .int .u8 h.proto, .int .u16 h.sport, .int .u16 h.dport]] w fun e w' => e = .returned (.string ⟨(textH h).toArray⟩) ∧ Below w.heap.size w w' := by
  obtain ⟨a, b, p, q, r⟩ := h
  obtain ⟨s0, s1, d0, d1, p0, p1, q0, q1, r0, r1⟩ := ok
  dsimp only at s0 s1 d0 d1 p0 p1 q0 q1 r0 r1 ⊢
  have la := textA_len s0 s1
  have lb := textA_len d0 d1
  have lp := itoa_len (n := p) (by omega) (by omega)
  have lq := itoa_len (n := q) (by omega) (by omega)
  have lr := itoa_len (n := r) (by omega) (by omega)
  have m1 : ¬ 9223372036854775807 < (textA a).length + 1 := by omega
  have m2 : ¬ 9223372036854775807 < (textA a).length + 1 + (Lib.itoa q).length := by omega
  have m3 : ¬ 9223372036854775807 < (textA a).length + 1 + (Lib.itoa q).length + 1 := by omega
  have m4 : ¬ 9223372036854775807 < (textA a).length + 1 + (Lib.itoa q).length + 1 + (textA b).length := by omega
  have m5 : ¬ 9223372036854775807 < (textA a).length + 1 + (Lib.itoa q).length + 1 + (textA b).length + 1 := by omega
  have m6 : ¬ 9223372036854775807 < (textA a).length + 1 + (Lib.itoa q).length + 1 + (textA b).length + 1 + (Lib.itoa r).length := by omega
  have m7 : ¬ 9223372036854775807 < (textA a).length + 1 + (Lib.itoa q).length + 1 + (textA b).length + 1 + (Lib.itoa r).length + 1 := by omega
  have m8 : ¬ 9223372036854775807 < (textA a).length + 1 + (Lib.itoa q).length + 1 + (textA b).length + 1 + (Lib.itoa r).length + 1 + (Lib.itoa p).length := by omega
  have k0 : Below (w.alloc (.cells #[.int .u32 a, .int .u32 b, .int .u8 p, .int .u16 q, .int .u16 r] 32)).heap.size (w.alloc (.cells #[.int .u32 a, .int .u32 b, .int .u8 p, .int .u16 q, .int .u16 r] 32)) (w.alloc (.cells #[.int .u32 a, .int .u32 b, .int .u8 p, .int .u16 q, .int .u16 r] 32)).drew := (Below.refl _ _).drew
  obtain ⟨c0, c1, c2, c3, c4⟩ := five_of (kept_new k0)
  have p00 : -9223372036854775808 ≤ p := by omega
  have p11 : p ≤ 9223372036854775807 := by omega
  have q00 : -9223372036854775808 ≤ q := by omega
  have q11 : q ≤ 9223372036854775807 := by omega
  have r00 : -9223372036854775808 ≤ r := by omega
  have r11 : r ≤ 9223372036854775807 := by omega
  have hw : IntKind.i64.wrap p = p := IntWalk.i64_in _ (by omega)
  have hw2 : IntKind.i64.wrap q = q := IntWalk.i64_in _ (by omega)
  have hw3 : IntKind.i64.wrap r = r := IntWalk.i64_in _ (by omega)
  go_enter Tryz.func47, Tryz.ntmps47
  go_wp2
  go_region_held3 (fun w' => w'.cell? ⟨w.heap.size, 0, none⟩ = some (.int .u32 a) ∧ w'.cell? ⟨w.heap.size, 1, none⟩ = some (.int .u32 b) ∧ w'.cell? ⟨w.heap.size, 2, none⟩ = some (.int .u8 p) ∧ w'.cell? ⟨w.heap.size, 3, none⟩ = some (.int .u16 q) ∧ w'.cell? ⟨w.heap.size, 4, none⟩ = some (.int .u16 r) ∧ Below (w.alloc (.cells #[.int .u32 a, .int .u32 b, .int .u8 p, .int .u16 q, .int .u16 r] 32)).heap.size (w.alloc (.cells #[.int .u32 a, .int .u32 b, .int .u8 p, .int .u16 q, .int .u16 r] 32)) w')
    (first | exact ⟨c0, c1, c2, c3, c4, k0⟩ | (go_split_ands; (try dsimp only); (have hq : Below (w.alloc (.cells #[.int .u32 a, .int .u32 b, .int .u8 p, .int .u16 q, .int .u16 r] 32)).heap.size (w.alloc (.cells #[.int .u32 a, .int .u32 b, .int .u8 p, .int .u16 q, .int .u16 r] 32)) _ := below_seq (by assumption) hb1; obtain ⟨x0, x1, x2, x3, x4⟩ := five_of (kept_new hq); exact ⟨x0, x1, x2, x3, x4, hq⟩)) | go_keep)
    (first | (go_at_call 48; (with_reducible refine (text01_any a s0 s1 _).mono ?_); rintro e w1 ⟨rfl, hb1⟩) | (go_at_call 48; (with_reducible refine (text01_any b d0 d1 _).mono ?_); rintro e w1 ⟨rfl, hb1⟩) | (go_at_call 45; (with_reducible refine (number01_any p p00 p11).mono ?_); rintro e w1 ⟨rfl, hb1⟩) | (go_at_call 45; (with_reducible refine (number01_any q q00 q11).mono ?_); rintro e w1 ⟨rfl, hb1⟩) | (go_at_call 45; (with_reducible refine (number01_any r r00 r11).mono ?_); rintro e w1 ⟨rfl, hb1⟩))
  go_wp2
  go_ret
  go_split_ands
  exact ⟨ret_str (by simp [textH, textE]), below_seq (below_new w _) (by assumption)⟩
end Go.Proofs.YtopccnoinngmbaaGreatDoor
