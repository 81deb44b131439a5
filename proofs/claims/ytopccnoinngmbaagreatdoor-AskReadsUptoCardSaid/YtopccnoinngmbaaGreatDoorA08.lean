/-
  Headers written and read, as package header does it.
-/
import Derived.Test.YtopccnoinngmbaaGreatDoorA05
namespace Go.Proofs.YtopccnoinngmbaaGreatDoor
open Go.RowKit
set_option maxRecDepth 100000
set_option linter.unusedVariables false
set_option linter.unusedSimpArgs false

/-- One end's text. -/
def textE (a p : Int) : List UInt8 := textA a ++ 58 :: Lib.itoa p
theorem end_any (a p : Int) (h0 : 0 ≤ a) (h1 : a < 4294967296) (p0 : 0 ≤ p) (p1 : p ≤ 65535) {w : World} (E : Env w) :
    Calls Tryz.prog 67 #[.int .u32 a, .int .u16 p] w fun e w' => e = .returned (.string ⟨(textE a p).toArray⟩) ∧ Below w.heap.size w w' := by
  have l1 := textA_len h0 h1
  have l2 := itoa_len (n := p) (by omega) (by omega)
  have l3 : ¬ 9223372036854775807 < (textA a).length + 1 := by omega
  have l4 : ¬ 9223372036854775807 < (textA a).length + 1 + (Lib.itoa p).length := by omega
  go_enter Tryz.func67, Tryz.ntmps67
  go_wp2_with (first | (go_at_call 42; refine (addrText_any a h0 h1 E).mono ?_; rintro e w1 ⟨rfl, hb1⟩) | (go_at_call 39; refine (itoa_any p (by omega) (by omega) (E.next hb1)).mono ?_; rintro e w2 ⟨rfl, hb2⟩))
  go_ret
  exact ⟨ret_str (by simp [textE]), below_seq hb1 hb2⟩
theorem textE_len {a p : Int} (h0 : 0 ≤ a) (h1 : a < 4294967296) (p0 : 0 ≤ p) (p1 : p ≤ 65535) : (textE a p).length ≤ 110 := by
  have l1 := textA_len h0 h1
  have l2 := itoa_len (n := p) (by omega) (by omega)
  simp [textE]; omega

/-- A header. -/
structure Hd where
  src : Int
  dst : Int
  proto : Int
  sport : Int
  dport : Int
structure Hd.Ok (h : Hd) : Prop where
  s0 : 0 ≤ h.src
  s1 : h.src < 4294967296
  d0 : 0 ≤ h.dst
  d1 : h.dst < 4294967296
  p0 : 0 ≤ h.proto
  p1 : h.proto ≤ 255
  sp0 : 0 ≤ h.sport
  sp1 : h.sport ≤ 65535
  dp0 : 0 ≤ h.dport
  dp1 : h.dport ≤ 65535
def Hd.cells (h : Hd) : Array Value := #[.int .u32 h.src, .int .u32 h.dst, .int .u8 h.proto, .int .u16 h.sport, .int .u16 h.dport]
/-- A header's text. -/
def textH (h : Hd) : List UInt8 := textE h.src h.sport ++ 32 :: textE h.dst h.dport ++ 32 :: Lib.itoa h.proto

theorem headText_any (h : Hd) (ok : h.Ok) {w : World} (E : Env w) :
    Calls Tryz.prog 41 #[.agg #[.int .u32 h.src, .int .u32 h.dst, .int .u8 h.proto, .int .u16 h.sport, .int .u16 h.dport]] w fun e w' => e = .returned (.string ⟨(textH h).toArray⟩) ∧ Below w.heap.size w w' := by
  obtain ⟨a, b, p, q, r⟩ := h
  obtain ⟨s0, s1, d0, d1, p0, p1, q0, q1, r0, r1⟩ := ok
  dsimp only at s0 s1 d0 d1 p0 p1 q0 q1 r0 r1 ⊢
  have EW : Env (w.alloc (.cells #[.int .u32 a, .int .u32 b, .int .u8 p, .int .u16 q, .int .u16 r] 32)) := E.next (below_new w _)
  have l1 := textE_len s0 s1 q0 q1
  have l2 := textE_len d0 d1 r0 r1
  have l3 := itoa_len (n := p) (by omega) (by omega)
  have m1 : ¬ 9223372036854775807 < (textE a q).length + 1 := by omega
  have m2 : ¬ 9223372036854775807 < (textE a q).length + 1 + (textE b r).length := by omega
  have m3 : ¬ 9223372036854775807 < (textE a q).length + 1 + (textE b r).length + 1 := by omega
  have m4 : ¬ 9223372036854775807 < (textE a q).length + 1 + (textE b r).length + 1 + (Lib.itoa p).length := by omega
  have k0 : Below (w.alloc (.cells #[.int .u32 a, .int .u32 b, .int .u8 p, .int .u16 q, .int .u16 r] 32)).heap.size (w.alloc (.cells #[.int .u32 a, .int .u32 b, .int .u8 p, .int .u16 q, .int .u16 r] 32)) (w.alloc (.cells #[.int .u32 a, .int .u32 b, .int .u8 p, .int .u16 q, .int .u16 r] 32)).drew := (Below.refl _ _).drew
  obtain ⟨c0, c1, c2, c3, c4⟩ := five_of (kept_new k0)
  have p00 : -9223372036854775808 ≤ p := by omega
  have p11 : p ≤ 9223372036854775807 := by omega
  have hw : IntKind.i64.wrap p = p := IntWalk.i64_in _ (by omega)
  go_enter Tryz.func41, Tryz.ntmps41
  go_wp2
  go_region_held3 (fun w' => w'.cell? ⟨w.heap.size, 0, none⟩ = some (.int .u32 a) ∧ w'.cell? ⟨w.heap.size, 1, none⟩ = some (.int .u32 b) ∧ w'.cell? ⟨w.heap.size, 2, none⟩ = some (.int .u8 p) ∧ w'.cell? ⟨w.heap.size, 3, none⟩ = some (.int .u16 q) ∧ w'.cell? ⟨w.heap.size, 4, none⟩ = some (.int .u16 r) ∧ Below (w.alloc (.cells #[.int .u32 a, .int .u32 b, .int .u8 p, .int .u16 q, .int .u16 r] 32)).heap.size (w.alloc (.cells #[.int .u32 a, .int .u32 b, .int .u8 p, .int .u16 q, .int .u16 r] 32)) w')
    (first | exact ⟨c0, c1, c2, c3, c4, k0⟩ | (go_split_ands; (try dsimp only); (have hq : Below (w.alloc (.cells #[.int .u32 a, .int .u32 b, .int .u8 p, .int .u16 q, .int .u16 r] 32)).heap.size (w.alloc (.cells #[.int .u32 a, .int .u32 b, .int .u8 p, .int .u16 q, .int .u16 r] 32)) _ := below_seq (by assumption) hb1; obtain ⟨x0, x1, x2, x3, x4⟩ := five_of (kept_new hq); exact ⟨x0, x1, x2, x3, x4, hq⟩)) | go_keep)
    (first | (go_at_call 67; (with_reducible refine (end_any a q s0 s1 q0 q1 (EW.next k0)).mono ?_); rintro e w1 ⟨rfl, hb1⟩) | (go_at_call 67; (with_reducible refine (end_any b r d0 d1 r0 r1 (EW.next (by go_split_ands; assumption))).mono ?_); rintro e w1 ⟨rfl, hb1⟩) | (go_at_call 39; refine (itoa_any p p00 p11 (EW.next (by go_split_ands; assumption))).mono ?_; rintro e w1 ⟨rfl, hb1⟩))
  go_wp2
  go_ret
  go_split_ands
  exact ⟨ret_str (by simp [textH]), below_seq (below_new w _) (by assumption)⟩

/-- A number of at most k bits, as strconv.ParseUint reads it. -/
def pU (k : Nat) (s : ByteArray) : Option Nat := match Lib.parseUintB k s.data.toList with
  | .ok u => some u
  | _ => none
/-- What ParseUint returns: the number, or some number beside an error. -/
def UintPost (k : Nat) (o : Option Nat) (e : Ending) : Prop := match o with
  | some u => e = .returned (.tuple #[.int .u64 u, .nilIface])
  | none => ∃ (v : Nat) (t : TypeId) (p : Value), v < 2 ^ k ∧ e = .returned (.tuple #[.int .u64 v, .iface t p])
theorem below_uint {w w' : World} {s : ByteArray} (h : w' = w ∨ w' = Lib.bytesWorld w 5 s) : Below w.heap.size w w' := by
  rcases h with rfl | rfl
  · exact Below.refl _ _
  · exact Lib.bytesWorld_below _ _ _
theorem pU_lt {k : Nat} {s : ByteArray} {u : Nat} (h : pU k s = some u) : u < 2 ^ k := by
  unfold pU at h
  split at h
  · rename_i v hv
    cases h
    have := Lib.parseUintB_le hv
    have := Nat.two_pow_pos k
    omega
  · cases h
theorem uint16_any (s : ByteArray) (hs : s.size ≤ 16777216) {w : World} (E : Env w) :
    Calls Tryz.prog 56 #[.string s, .int .i64 10, .int .i64 16] w fun e w' => UintPost 16 (pU 16 s) e ∧ Below w.heap.size w w' := by
  obtain ⟨a, b, h3⟩ := E.synt
  obtain ⟨c, d, h4⟩ := E.rang
  unfold pU
  cases he : Lib.parseUintB 16 s.data.toList with
  | ok u => exact (Tryz.strconv_ParseUint_10_at16_ok s (by omega) u he w).mono fun e w' ⟨h1, h2⟩ => ⟨h1, below_uint h2⟩
  | range => exact (Tryz.strconv_ParseUint_10_at16_range s (by omega) he _ w h4 (.inr ⟨c, d, rfl⟩)).mono fun e w' ⟨N, h1, _, _, hb⟩ => ⟨⟨65535, _, _, by decide, h1⟩, hb⟩
  | _ => exact (Tryz.strconv_ParseUint_10_at16_syntax s (by omega) he _ w h3 (.inr ⟨a, b, rfl⟩)).mono fun e w' ⟨N, h1, _, _, hb⟩ => ⟨⟨0, _, _, by decide, h1⟩, hb⟩
theorem uint8_any (s : ByteArray) (hs : s.size ≤ 16777216) {w : World} (E : Env w) :
    Calls Tryz.prog 56 #[.string s, .int .i64 10, .int .i64 8] w fun e w' => UintPost 8 (pU 8 s) e ∧ Below w.heap.size w w' := by
  obtain ⟨a, b, h3⟩ := E.synt
  obtain ⟨c, d, h4⟩ := E.rang
  unfold pU
  cases he : Lib.parseUintB 8 s.data.toList with
  | ok u => exact (Tryz.strconv_ParseUint_10_at8_ok s (by omega) u he w).mono fun e w' ⟨h1, h2⟩ => ⟨h1, below_uint h2⟩
  | range => exact (Tryz.strconv_ParseUint_10_at8_range s (by omega) he _ w h4 (.inr ⟨c, d, rfl⟩)).mono fun e w' ⟨N, h1, _, _, hb⟩ => ⟨⟨255, _, _, by decide, h1⟩, hb⟩
  | _ => exact (Tryz.strconv_ParseUint_10_at8_syntax s (by omega) he _ w h3 (.inr ⟨a, b, rfl⟩)).mono fun e w' ⟨N, h1, _, _, hb⟩ => ⟨⟨0, _, _, by decide, h1⟩, hb⟩
/-- Whatever it reads. -/
theorem uint16_some (s : ByteArray) (hs : s.size ≤ 16777216) {w : World} (E : Env w) :
    Calls Tryz.prog 56 #[.string s, .int .i64 10, .int .i64 16] w fun e w' => (∃ (v : Nat) (x : Value), e = .returned (.tuple #[.int .u64 v, x])) ∧ Below w.heap.size w w' :=
  (uint16_any s hs E).mono fun e w' ⟨h, hb⟩ => ⟨by
    unfold UintPost at h
    split at h
    · exact ⟨_, _, h⟩
    · obtain ⟨v, t, p, _, h⟩ := h; exact ⟨_, _, h⟩, hb⟩
theorem uint16_ok {s : ByteArray} {u : Nat} (h : pU 16 s = some u) (hs : s.size ≤ 16777216) {w : World} (E : Env w) :
    Calls Tryz.prog 56 #[.string s, .int .i64 10, .int .i64 16] w fun e w' => e = .returned (.tuple #[.int .u64 u, .nilIface]) ∧ Below w.heap.size w w' := by
  have := uint16_any s hs E
  rw [h] at this
  exact this
theorem uint16_bad {s : ByteArray} (h : pU 16 s = none) (hs : s.size ≤ 16777216) {w : World} (E : Env w) :
    Calls Tryz.prog 56 #[.string s, .int .i64 10, .int .i64 16] w fun e w' => (∃ (v : Nat) (t : TypeId) (p : Value), v < 2 ^ 16 ∧ e = .returned (.tuple #[.int .u64 v, .iface t p])) ∧ Below w.heap.size w w' := by
  have := uint16_any s hs E
  rw [h] at this
  exact this
theorem uint8_ok {s : ByteArray} {u : Nat} (h : pU 8 s = some u) (hs : s.size ≤ 16777216) {w : World} (E : Env w) :
    Calls Tryz.prog 56 #[.string s, .int .i64 10, .int .i64 8] w fun e w' => e = .returned (.tuple #[.int .u64 u, .nilIface]) ∧ Below w.heap.size w w' := by
  have := uint8_any s hs E
  rw [h] at this
  exact this
theorem uint8_bad {s : ByteArray} (h : pU 8 s = none) (hs : s.size ≤ 16777216) {w : World} (E : Env w) :
    Calls Tryz.prog 56 #[.string s, .int .i64 10, .int .i64 8] w fun e w' => (∃ (v : Nat) (t : TypeId) (p : Value), v < 2 ^ 8 ∧ e = .returned (.tuple #[.int .u64 v, .iface t p])) ∧ Below w.heap.size w w' := by
  have := uint8_any s hs E
  rw [h] at this
  exact this

/-- One end, as header.Parse reads it. -/
def pEnd (x : ByteArray) : Option (Int × Nat) := match pAddr (cutA 58 x).1, pU 16 (cutA 58 x).2.1 with
  | some a, some p => some (a, p)
  | _, _ => none
/-- The header of a text. -/
def pHead (s : ByteArray) : Option Hd := match spl 32 s with
  | [x, y, z] => match pEnd x, pEnd y, pU 8 z with
    | some (a, p), some (b, q), some r => if textH ⟨a, b, r, p, q⟩ = s.data.toList then some ⟨a, b, r, p, q⟩ else none
    | _, _, _ => none
  | _ => none

/-- The memory of header.Parse: its result's cell, the words, the header. -/
structure HSt (w : World) (ws : List ByteArray) (h : Hd) (W : World) : Prop where
  bel : Below w.heap.size w W
  res : W.heap[w.heap.size]? = some (.cells #[.int .u32 0, .int .u32 0, .int .u8 0, .int .u16 0, .int .u16 0] 32 (0, 0))
  words : W.heap[w.heap.size + 1]? = some (.cells (ws.map Value.string).toArray 9 (0, 0))
  head : W.heap[w.heap.size + 1 + 1]? = some (.cells h.cells 32 (0, 0))
theorem HSt.call {w : World} {ws : List ByteArray} {h : Hd} {W W1 : World} (H : HSt w ws h W) (hb : Below W.heap.size W W1) : HSt w ws h W1 :=
  ⟨below_seq H.bel (hb.mono (Nat.le_refl _)), kept_old hb H.res, kept_old hb H.words, kept_old hb H.head⟩
theorem HSt.set {w : World} {ws : List ByteArray} {h h' : Hd} {W : World} (H : HSt w ws h W) (j : Nat) (u : Value) (e : h.cells.setIfInBounds j u = h'.cells) :
    HSt w ws h' (W.setCell ⟨w.heap.size + 1 + 1, j, none⟩ u) :=
  ⟨H.bel.setCell (by show w.heap.size ≤ w.heap.size + 1 + 1; omega) _, (Below.heap_setCell _ _ _ _ (by show w.heap.size ≠ w.heap.size + 1 + 1; omega)).trans H.res,
    (Below.heap_setCell _ _ _ _ (by show w.heap.size + 1 ≠ w.heap.size + 1 + 1; omega)).trans H.words, e ▸ block_setCell H.head j u⟩
theorem HSt.env {w : World} {ws : List ByteArray} {h : Hd} {W : World} (H : HSt w ws h W) (E : Env w) : Env W := E.next H.bel
theorem HSt.word {w : World} {ws : List ByteArray} {h : Hd} {W : World} (H : HSt w ws h W) (j : Nat) {x : ByteArray} (hx : ws[j]? = some x) : W.cell? ⟨w.heap.size + 1, j, none⟩ = some (.string x) := by
  rw [cell_at H.words]; simp [hx]

/-- What header.Parse returns. -/
def HeadPost (o : Option Hd) (e : Ending) : Prop := match o with
  | some h => e = .returned (.tuple #[.agg #[.int .u32 h.src, .int .u32 h.dst, .int .u8 h.proto, .int .u16 h.sport, .int .u16 h.dport], .int .i64 0])
  | none => e = .returned (.tuple #[.agg #[.int .u32 0, .int .u32 0, .int .u8 0, .int .u16 0, .int .u16 0], .int .i64 4])

/-- The memory in which header.Parse's loop begins. -/
def W0 (w : World) (ws : List ByteArray) : World :=
  ((w.alloc (.cells #[.int .u32 0, .int .u32 0, .int .u8 0, .int .u16 0, .int .u16 0] 32)).alloc (.cells (ws.map Value.string).toArray 9)).alloc (.cells #[.int .u32 0, .int .u32 0, .int .u8 0, .int .u16 0, .int .u16 0] 32)
theorem HSt.start (w : World) (ws : List ByteArray) : HSt w ws ⟨0, 0, 0, 0, 0⟩ (W0 w ws) := by
  have b1 := below_new w (.cells #[.int .u32 0, .int .u32 0, .int .u8 0, .int .u16 0, .int .u16 0] 32)
  have b2 := below_new (w.alloc (.cells #[.int .u32 0, .int .u32 0, .int .u8 0, .int .u16 0, .int .u16 0] 32)) (.cells (ws.map Value.string).toArray 9)
  have b3 := below_new ((w.alloc (.cells #[.int .u32 0, .int .u32 0, .int .u8 0, .int .u16 0, .int .u16 0] 32)).alloc (.cells (ws.map Value.string).toArray 9)) (.cells #[.int .u32 0, .int .u32 0, .int .u8 0, .int .u16 0, .int .u16 0] 32)
  have z1 : (w.alloc (.cells #[.int .u32 0, .int .u32 0, .int .u8 0, .int .u16 0, .int .u16 0] 32)).heap.size = w.heap.size + 1 := by show (w.heap.push _).size = _; simp
  have z2 : ((w.alloc (.cells #[.int .u32 0, .int .u32 0, .int .u8 0, .int .u16 0, .int .u16 0] 32)).alloc (.cells (ws.map Value.string).toArray 9)).heap.size = w.heap.size + 1 + 1 := by show (Array.push _ _).size = _; rw [Array.size_push, z1]
  refine ⟨below_seq (below_seq b1 b2) b3, ?_, ?_, ?_⟩
  · exact kept_old b3 (kept_old b2 (heap_alloc_new _ _))
  · have := heap_alloc_new (w.alloc (.cells #[.int .u32 0, .int .u32 0, .int .u8 0, .int .u16 0, .int .u16 0] 32)) (.cells (ws.map Value.string).toArray 9)
    rw [z1] at this
    exact kept_old b3 this
  · have := heap_alloc_new ((w.alloc (.cells #[.int .u32 0, .int .u32 0, .int .u8 0, .int .u16 0, .int .u16 0] 32)).alloc (.cells (ws.map Value.string).toArray 9)) (.cells #[.int .u32 0, .int .u32 0, .int .u8 0, .int .u16 0, .int .u16 0] 32)
    rw [z2] at this
    exact this

theorem headParse_other {s : ByteArray} {ws : List ByteArray} {n : Nat} (h : spl 32 s = ws) (hn : ws.length = n) (h3 : n ≠ 3) (hb : n ≤ 16777217) (hs : s.size ≤ 16777216) {w : World} (E : Env w) :
    Calls Tryz.prog 23 #[.string s] w fun e w' => HeadPost none e ∧ Below w.heap.size w w' := by
  have hp : HeadPost none (.returned (.tuple #[.agg #[.int .u32 0, .int .u32 0, .int .u8 0, .int .u16 0, .int .u16 0], .int .i64 4])) := rfl
  have H := Lib.hid h
  have HN := Lib.hid hn
  have h3' : ((n : Int) == 3) = false := by simp; omega
  have EW : Env (w.alloc (.cells #[.int .u32 0, .int .u32 0, .int .u8 0, .int .u16 0, .int .u16 0] 32)) := E.next (below_new w _)
  clear h hn
  go_enter Tryz.func23, Tryz.ntmps23
  go_wp2_with (go_at_call 12; refine (split_as 32 s H.out HN.out hs EW).mono ?_; rintro e w1 ⟨rfl, rfl⟩)
  refine bodyPost_ret (v := .tuple #[.agg #[.int .u32 0, .int .u32 0, .int .u8 0, .int .u16 0, .int .u16 0], .int .i64 4]) ?_ rfl ⟨hp, ?_⟩
  · simp [results, Tryz.results23, go_sem]
  · (repeat first | assumption | exact Below.refl _ _ | (refine Below.setCell ?_ (by simp <;> omega) _) | (refine Below.alloc ?_ (by simp <;> omega) _))

set_option maxHeartbeats 16000000 in
theorem headParse_three {s x y z : ByteArray} (h : spl 32 s = [x, y, z]) (hs : s.size ≤ 16777216) {w : World} (E : Env w) :
    Calls Tryz.prog 23 #[.string s] w fun e w' => HeadPost (pHead s) e ∧ Below w.heap.size w w' := by
  have EW : Env (w.alloc (.cells #[.int .u32 0, .int .u32 0, .int .u8 0, .int .u16 0, .int .u16 0] 32)) := E.next (below_new w _)
  have hx : x.size ≤ s.size := spl_small (c := 32) (by rw [h]; simp)
  have hy : y.size ≤ s.size := spl_small (c := 32) (by rw [h]; simp)
  have hz : z.size ≤ s.size := spl_small (c := 32) (by rw [h]; simp)
  obtain ⟨hx1, hx2⟩ := cutA_small 58 x
  obtain ⟨hy1, hy2⟩ := cutA_small 58 y
  have S0 : HSt w [x, y, z] ⟨0, 0, 0, 0, 0⟩ (((w.alloc (.cells #[.int .u32 0, .int .u32 0, .int .u8 0, .int .u16 0, .int .u16 0] 32)).alloc (.cells #[.string x, .string y, .string z] 9)).alloc (.cells #[.int .u32 0, .int .u32 0, .int .u8 0, .int .u16 0, .int .u16 0] 32)) := HSt.start w [x, y, z]
  have bad : HeadPost none (.returned (.tuple #[.agg #[.int .u32 0, .int .u32 0, .int .u8 0, .int .u16 0, .int .u16 0], .int .i64 4])) := rfl
  have H := Lib.hid h
  cases ha : pAddr (cutA 58 x).1 with
  | none =>
    have hp : pHead s = none := by simp [pHead, h, pEnd, ha]
    rw [hp]
    have HA := Lib.hid ha
    clear h hp ha
    go_enter Tryz.func23, Tryz.ntmps23
    go_wp2_with (go_at_call 12; refine (split_as 32 s (n := 3) H.out rfl hs EW).mono ?_; rintro e w1 ⟨rfl, rfl⟩)
    refine wp_loop_rounds 3 ?_
    rw [rounds_succ]
    go_wp2_with (first | (go_at_call 51; (with_reducible refine (cut_any 58 x (by omega) (S0.env E)).mono ?_); rintro e w1 ⟨rfl, n1, rfl⟩; have S1 := S0.call (below_drewN (Below.refl _ _) n1)) | (go_at_call 25; (with_reducible refine (addrPost_none HA.out (by omega) (S1.env E)).mono ?_); rintro e w2 ⟨rfl, hb2⟩; have S2 := S1.call hb2; clear hb2) | (go_at_call 56; (with_reducible refine (uint16_some (cutA 58 x).2.1 (by omega) (S2.env E)).mono ?_); rintro e w3 ⟨⟨v, err, rfl⟩, hb3⟩; have S3 := S2.call hb3; clear hb3; obtain ⟨c0, c1, c2, c3, c4⟩ := five_of S3.res; obtain ⟨f0, f1, f2, f3, f4⟩ := free5_of S3.res))
    have S4 := S3.bel
    refine bodyPost_ret (v := .tuple #[.agg #[.int .u32 0, .int .u32 0, .int .u8 0, .int .u16 0, .int .u16 0], .int .i64 4]) (by simp [results, Tryz.results23, go_sem, c0, c1, c2, c3, c4]) rfl ⟨bad, ?_⟩
    (repeat first | assumption | exact Below.refl _ _ | (refine Below.setCell ?_ (by simp <;> omega) _) | (refine Below.alloc ?_ (by simp <;> omega) _))
  | some a =>
    obtain ⟨la, ua⟩ := pAddr_bounds ha
    cases hp1 : pU 16 (cutA 58 x).2.1 with
    | none =>
      have hp : pHead s = none := by simp [pHead, h, pEnd, ha, hp1]
      rw [hp]
      have HA := Lib.hid ha
      have HP := Lib.hid hp1
      clear h hp ha hp1
      go_enter Tryz.func23, Tryz.ntmps23
      go_wp2_with (go_at_call 12; refine (split_as 32 s (n := 3) H.out rfl hs EW).mono ?_; rintro e w1 ⟨rfl, rfl⟩)
      refine wp_loop_rounds 3 ?_
      rw [rounds_succ]
      go_wp2_with (first | (go_at_call 51; (with_reducible refine (cut_any 58 x (by omega) (S0.env E)).mono ?_); rintro e w1 ⟨rfl, n1, rfl⟩; have S1 := S0.call (below_drewN (Below.refl _ _) n1)) | (go_at_call 25; (with_reducible refine (addrPost_some HA.out (by omega) (S1.env E)).mono ?_); rintro e w2 ⟨rfl, hb2⟩; have S2 := S1.call hb2; clear hb2) | (go_at_call 56; (with_reducible refine (uint16_bad HP.out (by omega) (S2.env E)).mono ?_); rintro e w3 ⟨⟨v, ty, er, hv, rfl⟩, hb3⟩; have S3 := S2.call hb3; clear hb3; obtain ⟨c0, c1, c2, c3, c4⟩ := five_of S3.res; obtain ⟨f0, f1, f2, f3, f4⟩ := free5_of S3.res))
      have S4 := S3.bel
      refine bodyPost_ret (v := .tuple #[.agg #[.int .u32 0, .int .u32 0, .int .u8 0, .int .u16 0, .int .u16 0], .int .i64 4]) (by simp [results, Tryz.results23, go_sem, c0, c1, c2, c3, c4]) rfl ⟨bad, ?_⟩
      (repeat first | assumption | exact Below.refl _ _ | (refine Below.setCell ?_ (by simp <;> omega) _) | (refine Below.alloc ?_ (by simp <;> omega) _))
    | some p =>
      have lp := pU_lt hp1
      have lp' : (p : Int) < 65536 := by omega
      have HA := Lib.hid ha
      have HP := Lib.hid hp1
      cases hb : pAddr (cutA 58 y).1 with
      | none =>
        have hp : pHead s = none := by simp [pHead, h, pEnd, ha, hp1, hb]
        rw [hp]
        have HB := Lib.hid hb
        clear h hp ha hp1 hb
        go_enter Tryz.func23, Tryz.ntmps23
        go_wp2_with (go_at_call 12; refine (split_as 32 s (n := 3) H.out rfl hs EW).mono ?_; rintro e w1 ⟨rfl, rfl⟩)
        refine wp_loop_rounds 3 ?_
        rw [rounds_succ]
        go_wp2_with (first | (go_at_call 51; (with_reducible refine (cut_any 58 x (by omega) (S0.env E)).mono ?_); rintro e w1 ⟨rfl, n1, rfl⟩; have S1 := S0.call (below_drewN (Below.refl _ _) n1)) | (go_at_call 25; (with_reducible refine (addrPost_some HA.out (by omega) (S1.env E)).mono ?_); rintro e w2 ⟨rfl, hb2⟩; have S2 := S1.call hb2; clear hb2) | (go_at_call 56; (with_reducible refine (uint16_ok HP.out (by omega) (S2.env E)).mono ?_); rintro e w3 ⟨rfl, hb3⟩; have S3 := S2.call hb3; clear hb3; obtain ⟨h0, h1, h2, h3, h4⟩ := five_of S3.head; obtain ⟨g0, g1, g2, g3, g4⟩ := free5_of S3.head; have q3 := S3.word 1 rfl))
        rw [rounds_succ]
        go_wp2_with (first | (go_at_call 51; have S4 := (S3.set 0 (.int .u32 a) (h' := ⟨a, 0, 0, 0, 0⟩) rfl).set 3 (.int .u16 (p : Int)) (h' := ⟨a, 0, 0, p, 0⟩) rfl; (with_reducible refine (cut_any 58 y (by omega) (S4.env E)).mono ?_); rintro e w4 ⟨rfl, n4, rfl⟩; have S5 := S4.call (below_drewN (Below.refl _ _) n4)) | (go_at_call 25; (with_reducible refine (addrPost_none HB.out (by omega) (S5.env E)).mono ?_); rintro e w6 ⟨rfl, hb6⟩; have S6 := S5.call hb6; clear hb6) | (go_at_call 56; (with_reducible refine (uint16_some (cutA 58 y).2.1 (by omega) (S6.env E)).mono ?_); rintro e w7 ⟨⟨v, err, rfl⟩, hb7⟩; have S7 := S6.call hb7; clear hb7; obtain ⟨c0, c1, c2, c3, c4⟩ := five_of S7.res; obtain ⟨f0, f1, f2, f3, f4⟩ := free5_of S7.res))
        have S8 := S7.bel
        refine bodyPost_ret (v := .tuple #[.agg #[.int .u32 0, .int .u32 0, .int .u8 0, .int .u16 0, .int .u16 0], .int .i64 4]) (by simp [results, Tryz.results23, go_sem, c0, c1, c2, c3, c4]) rfl ⟨bad, ?_⟩
        (repeat first | assumption | exact Below.refl _ _ | (refine Below.setCell ?_ (by simp <;> omega) _) | (refine Below.alloc ?_ (by simp <;> omega) _))
      | some b =>
        obtain ⟨lb, ub⟩ := pAddr_bounds hb
        have HB := Lib.hid hb
        cases hq : pU 16 (cutA 58 y).2.1 with
        | none =>
          have hp : pHead s = none := by simp [pHead, h, pEnd, ha, hp1, hb, hq]
          rw [hp]
          have HQ := Lib.hid hq
          clear h hp ha hp1 hb hq
          go_enter Tryz.func23, Tryz.ntmps23
          go_wp2_with (go_at_call 12; refine (split_as 32 s (n := 3) H.out rfl hs EW).mono ?_; rintro e w1 ⟨rfl, rfl⟩)
          refine wp_loop_rounds 3 ?_
          rw [rounds_succ]
          go_wp2_with (first | (go_at_call 51; (with_reducible refine (cut_any 58 x (by omega) (S0.env E)).mono ?_); rintro e w1 ⟨rfl, n1, rfl⟩; have S1 := S0.call (below_drewN (Below.refl _ _) n1)) | (go_at_call 25; (with_reducible refine (addrPost_some HA.out (by omega) (S1.env E)).mono ?_); rintro e w2 ⟨rfl, hb2⟩; have S2 := S1.call hb2; clear hb2) | (go_at_call 56; (with_reducible refine (uint16_ok HP.out (by omega) (S2.env E)).mono ?_); rintro e w3 ⟨rfl, hb3⟩; have S3 := S2.call hb3; clear hb3; obtain ⟨h0, h1, h2, h3, h4⟩ := five_of S3.head; obtain ⟨g0, g1, g2, g3, g4⟩ := free5_of S3.head; have q3 := S3.word 1 rfl))
          rw [rounds_succ]
          go_wp2_with (first | (go_at_call 51; have S4 := (S3.set 0 (.int .u32 a) (h' := ⟨a, 0, 0, 0, 0⟩) rfl).set 3 (.int .u16 (p : Int)) (h' := ⟨a, 0, 0, p, 0⟩) rfl; (with_reducible refine (cut_any 58 y (by omega) (S4.env E)).mono ?_); rintro e w4 ⟨rfl, n4, rfl⟩; have S5 := S4.call (below_drewN (Below.refl _ _) n4)) | (go_at_call 25; (with_reducible refine (addrPost_some HB.out (by omega) (S5.env E)).mono ?_); rintro e w6 ⟨rfl, hb6⟩; have S6 := S5.call hb6; clear hb6) | (go_at_call 56; (with_reducible refine (uint16_bad HQ.out (by omega) (S6.env E)).mono ?_); rintro e w7 ⟨⟨v, ty, er, hv, rfl⟩, hb7⟩; have S7 := S6.call hb7; clear hb7; obtain ⟨c0, c1, c2, c3, c4⟩ := five_of S7.res; obtain ⟨f0, f1, f2, f3, f4⟩ := free5_of S7.res))
          have S8 := S7.bel
          refine bodyPost_ret (v := .tuple #[.agg #[.int .u32 0, .int .u32 0, .int .u8 0, .int .u16 0, .int .u16 0], .int .i64 4]) (by simp [results, Tryz.results23, go_sem, c0, c1, c2, c3, c4]) rfl ⟨bad, ?_⟩
          (repeat first | assumption | exact Below.refl _ _ | (refine Below.setCell ?_ (by simp <;> omega) _) | (refine Below.alloc ?_ (by simp <;> omega) _))
        | some q =>
          have lq := pU_lt hq
          have lq' : (q : Int) < 65536 := by omega
          have HQ := Lib.hid hq
          cases hr : pU 8 z with
          | none =>
            have hp : pHead s = none := by simp [pHead, h, pEnd, ha, hp1, hb, hq, hr]
            rw [hp]
            have HR := Lib.hid hr
            clear h hp ha hp1 hb hq hr
            go_enter Tryz.func23, Tryz.ntmps23
            go_wp2_with (go_at_call 12; refine (split_as 32 s (n := 3) H.out rfl hs EW).mono ?_; rintro e w1 ⟨rfl, rfl⟩)
            refine wp_loop_rounds 3 ?_
            rw [rounds_succ]
            go_wp2_with (first | (go_at_call 51; (with_reducible refine (cut_any 58 x (by omega) (S0.env E)).mono ?_); rintro e w1 ⟨rfl, n1, rfl⟩; have S1 := S0.call (below_drewN (Below.refl _ _) n1)) | (go_at_call 25; (with_reducible refine (addrPost_some HA.out (by omega) (S1.env E)).mono ?_); rintro e w2 ⟨rfl, hb2⟩; have S2 := S1.call hb2; clear hb2) | (go_at_call 56; (with_reducible refine (uint16_ok HP.out (by omega) (S2.env E)).mono ?_); rintro e w3 ⟨rfl, hb3⟩; have S3 := S2.call hb3; clear hb3; obtain ⟨h0, h1, h2, h3, h4⟩ := five_of S3.head; obtain ⟨g0, g1, g2, g3, g4⟩ := free5_of S3.head; have q3 := S3.word 1 rfl))
            rw [rounds_succ]
            go_wp2_with (first | (go_at_call 51; have S4 := (S3.set 0 (.int .u32 a) (h' := ⟨a, 0, 0, 0, 0⟩) rfl).set 3 (.int .u16 (p : Int)) (h' := ⟨a, 0, 0, p, 0⟩) rfl; (with_reducible refine (cut_any 58 y (by omega) (S4.env E)).mono ?_); rintro e w4 ⟨rfl, n4, rfl⟩; have S5 := S4.call (below_drewN (Below.refl _ _) n4)) | (go_at_call 25; (with_reducible refine (addrPost_some HB.out (by omega) (S5.env E)).mono ?_); rintro e w6 ⟨rfl, hb6⟩; have S6 := S5.call hb6; clear hb6) | (go_at_call 56; (with_reducible refine (uint16_ok HQ.out (by omega) (S6.env E)).mono ?_); rintro e w7 ⟨rfl, hb7⟩; have S7 := S6.call hb7; clear hb7; obtain ⟨h0, h1, h2, h3, h4⟩ := five_of S7.head; obtain ⟨g0, g1, g2, g3, g4⟩ := free5_of S7.head; have q7 := S7.word 2 rfl))
            rw [rounds_succ]
            go_wp2_with (first | (go_at_call 56; have S8 := (S7.set 1 (.int .u32 b) (h' := ⟨a, b, 0, p, 0⟩) rfl).set 4 (.int .u16 (q : Int)) (h' := ⟨a, b, 0, p, q⟩) rfl; (with_reducible refine (uint8_bad HR.out (by omega) (S8.env E)).mono ?_); rintro e w9 ⟨⟨v, ty, er, hv, rfl⟩, hb9⟩; have S9 := S8.call hb9; clear hb9; obtain ⟨h0, h1, h2, h3, h4⟩ := five_of S9.head; obtain ⟨g0, g1, g2, g3, g4⟩ := free5_of S9.head; obtain ⟨c0, c1, c2, c3, c4⟩ := five_of S9.res; obtain ⟨f0, f1, f2, f3, f4⟩ := free5_of S9.res))
            have S10 := S9.bel
            refine bodyPost_ret (v := .tuple #[.agg #[.int .u32 0, .int .u32 0, .int .u8 0, .int .u16 0, .int .u16 0], .int .i64 4]) (by simp [results, Tryz.results23, go_sem, c0, c1, c2, c3, c4]) rfl ⟨bad, ?_⟩
            (repeat first | assumption | exact Below.refl _ _ | (refine Below.setCell ?_ (by simp <;> omega) _) | (refine Below.alloc ?_ (by simp <;> omega) _))
          | some r =>
            have lr := pU_lt hr
            have lr' : (r : Int) < 256 := by omega
            have HR := Lib.hid hr
            have ok : Hd.Ok ⟨a, b, r, p, q⟩ := ⟨la, ua, lb, ub, by dsimp only; omega, by dsimp only; omega, by dsimp only; omega, by dsimp only; omega, by dsimp only; omega, by dsimp only; omega⟩
            by_cases hT : textH ⟨a, b, r, p, q⟩ = s.data.toList
            · have hp : pHead s = some ⟨a, b, r, p, q⟩ := by simp [pHead, h, pEnd, ha, hp1, hb, hq, hr, hT]
              have good : HeadPost (some ⟨a, b, r, p, q⟩) (.returned (.tuple #[.agg #[.int .u32 a, .int .u32 b, .int .u8 r, .int .u16 p, .int .u16 q], .int .i64 0])) := rfl
              rw [hp]
              have hT' : (textH ⟨a, b, r, p, q⟩ == s.toList) = true := by rw [ByteArray.toList_eq]; simp [hT]
              clear h hp ha hp1 hb hq hr hT bad
              go_enter Tryz.func23, Tryz.ntmps23
              go_wp2_with (go_at_call 12; refine (split_as 32 s (n := 3) H.out rfl hs EW).mono ?_; rintro e w1 ⟨rfl, rfl⟩)
              refine wp_loop_rounds 3 ?_
              rw [rounds_succ]
              go_wp2_with (first | (go_at_call 51; (with_reducible refine (cut_any 58 x (by omega) (S0.env E)).mono ?_); rintro e w1 ⟨rfl, n1, rfl⟩; have S1 := S0.call (below_drewN (Below.refl _ _) n1)) | (go_at_call 25; (with_reducible refine (addrPost_some HA.out (by omega) (S1.env E)).mono ?_); rintro e w2 ⟨rfl, hb2⟩; have S2 := S1.call hb2; clear hb2) | (go_at_call 56; (with_reducible refine (uint16_ok HP.out (by omega) (S2.env E)).mono ?_); rintro e w3 ⟨rfl, hb3⟩; have S3 := S2.call hb3; clear hb3; obtain ⟨h0, h1, h2, h3, h4⟩ := five_of S3.head; obtain ⟨g0, g1, g2, g3, g4⟩ := free5_of S3.head; have q3 := S3.word 1 rfl))
              rw [rounds_succ]
              go_wp2_with (first | (go_at_call 51; have S4 := (S3.set 0 (.int .u32 a) (h' := ⟨a, 0, 0, 0, 0⟩) rfl).set 3 (.int .u16 (p : Int)) (h' := ⟨a, 0, 0, p, 0⟩) rfl; (with_reducible refine (cut_any 58 y (by omega) (S4.env E)).mono ?_); rintro e w4 ⟨rfl, n4, rfl⟩; have S5 := S4.call (below_drewN (Below.refl _ _) n4)) | (go_at_call 25; (with_reducible refine (addrPost_some HB.out (by omega) (S5.env E)).mono ?_); rintro e w6 ⟨rfl, hb6⟩; have S6 := S5.call hb6; clear hb6) | (go_at_call 56; (with_reducible refine (uint16_ok HQ.out (by omega) (S6.env E)).mono ?_); rintro e w7 ⟨rfl, hb7⟩; have S7 := S6.call hb7; clear hb7; obtain ⟨h0, h1, h2, h3, h4⟩ := five_of S7.head; obtain ⟨g0, g1, g2, g3, g4⟩ := free5_of S7.head; have q7 := S7.word 2 rfl))
              rw [rounds_succ]
              go_wp2_with (first | (go_at_call 56; have S8 := (S7.set 1 (.int .u32 b) (h' := ⟨a, b, 0, p, 0⟩) rfl).set 4 (.int .u16 (q : Int)) (h' := ⟨a, b, 0, p, q⟩) rfl; (with_reducible refine (uint8_ok HR.out (by omega) (S8.env E)).mono ?_); rintro e w9 ⟨rfl, hb9⟩; have S9 := S8.call hb9; clear hb9; obtain ⟨h0, h1, h2, h3, h4⟩ := five_of S9.head; obtain ⟨g0, g1, g2, g3, g4⟩ := free5_of S9.head; obtain ⟨c0, c1, c2, c3, c4⟩ := five_of S9.res; obtain ⟨f0, f1, f2, f3, f4⟩ := free5_of S9.res) | (go_at_call 41; have S10 := S9.set 2 (.int .u8 (r : Int)) (h' := ⟨a, b, r, p, q⟩) rfl; refine (headText_any ⟨a, b, r, p, q⟩ ok (S10.env E)).mono ?_; rintro e w11 ⟨rfl, hb11⟩; have S11 := S10.call hb11; clear hb11; obtain ⟨i0, i1, i2, i3, i4⟩ := five_of S11.head; obtain ⟨-, -, -, -, -⟩ := free5_of S11.head; obtain ⟨d0, d1, d2, d3, d4⟩ := five_of S11.res; obtain ⟨e0, e1, e2, e3, e4⟩ := free5_of S11.res))
              have S12 := S11.bel
              refine bodyPost_ret (v := .tuple #[.agg #[.int .u32 a, .int .u32 b, .int .u8 r, .int .u16 p, .int .u16 q], .int .i64 0]) (by simp [results, Tryz.results23, go_sem, d0, d1, d2, d3, d4]) rfl ⟨good, ?_⟩
              (repeat first | assumption | exact Below.refl _ _ | (refine Below.setCell ?_ (by simp <;> omega) _) | (refine Below.alloc ?_ (by simp <;> omega) _))
            · have hp : pHead s = none := by simp [pHead, h, pEnd, ha, hp1, hb, hq, hr, hT]
              rw [hp]
              have hT' : (textH ⟨a, b, r, p, q⟩ == s.toList) = false := by rw [ByteArray.toList_eq]; simp [hT]
              clear h hp ha hp1 hb hq hr hT
              go_enter Tryz.func23, Tryz.ntmps23
              go_wp2_with (go_at_call 12; refine (split_as 32 s (n := 3) H.out rfl hs EW).mono ?_; rintro e w1 ⟨rfl, rfl⟩)
              refine wp_loop_rounds 3 ?_
              rw [rounds_succ]
              go_wp2_with (first | (go_at_call 51; (with_reducible refine (cut_any 58 x (by omega) (S0.env E)).mono ?_); rintro e w1 ⟨rfl, n1, rfl⟩; have S1 := S0.call (below_drewN (Below.refl _ _) n1)) | (go_at_call 25; (with_reducible refine (addrPost_some HA.out (by omega) (S1.env E)).mono ?_); rintro e w2 ⟨rfl, hb2⟩; have S2 := S1.call hb2; clear hb2) | (go_at_call 56; (with_reducible refine (uint16_ok HP.out (by omega) (S2.env E)).mono ?_); rintro e w3 ⟨rfl, hb3⟩; have S3 := S2.call hb3; clear hb3; obtain ⟨h0, h1, h2, h3, h4⟩ := five_of S3.head; obtain ⟨g0, g1, g2, g3, g4⟩ := free5_of S3.head; have q3 := S3.word 1 rfl))
              rw [rounds_succ]
              go_wp2_with (first | (go_at_call 51; have S4 := (S3.set 0 (.int .u32 a) (h' := ⟨a, 0, 0, 0, 0⟩) rfl).set 3 (.int .u16 (p : Int)) (h' := ⟨a, 0, 0, p, 0⟩) rfl; (with_reducible refine (cut_any 58 y (by omega) (S4.env E)).mono ?_); rintro e w4 ⟨rfl, n4, rfl⟩; have S5 := S4.call (below_drewN (Below.refl _ _) n4)) | (go_at_call 25; (with_reducible refine (addrPost_some HB.out (by omega) (S5.env E)).mono ?_); rintro e w6 ⟨rfl, hb6⟩; have S6 := S5.call hb6; clear hb6) | (go_at_call 56; (with_reducible refine (uint16_ok HQ.out (by omega) (S6.env E)).mono ?_); rintro e w7 ⟨rfl, hb7⟩; have S7 := S6.call hb7; clear hb7; obtain ⟨h0, h1, h2, h3, h4⟩ := five_of S7.head; obtain ⟨g0, g1, g2, g3, g4⟩ := free5_of S7.head; have q7 := S7.word 2 rfl))
              rw [rounds_succ]
              go_wp2_with (first | (go_at_call 56; have S8 := (S7.set 1 (.int .u32 b) (h' := ⟨a, b, 0, p, 0⟩) rfl).set 4 (.int .u16 (q : Int)) (h' := ⟨a, b, 0, p, q⟩) rfl; (with_reducible refine (uint8_ok HR.out (by omega) (S8.env E)).mono ?_); rintro e w9 ⟨rfl, hb9⟩; have S9 := S8.call hb9; clear hb9; obtain ⟨h0, h1, h2, h3, h4⟩ := five_of S9.head; obtain ⟨g0, g1, g2, g3, g4⟩ := free5_of S9.head; obtain ⟨c0, c1, c2, c3, c4⟩ := five_of S9.res; obtain ⟨f0, f1, f2, f3, f4⟩ := free5_of S9.res) | (go_at_call 41; have S10 := S9.set 2 (.int .u8 (r : Int)) (h' := ⟨a, b, r, p, q⟩) rfl; refine (headText_any ⟨a, b, r, p, q⟩ ok (S10.env E)).mono ?_; rintro e w11 ⟨rfl, hb11⟩; have S11 := S10.call hb11; clear hb11; obtain ⟨i0, i1, i2, i3, i4⟩ := five_of S11.head; obtain ⟨-, -, -, -, -⟩ := free5_of S11.head; obtain ⟨d0, d1, d2, d3, d4⟩ := five_of S11.res; obtain ⟨e0, e1, e2, e3, e4⟩ := free5_of S11.res))
              have S12 := S11.bel
              refine bodyPost_ret (v := .tuple #[.agg #[.int .u32 0, .int .u32 0, .int .u8 0, .int .u16 0, .int .u16 0], .int .i64 4]) (by simp [results, Tryz.results23, go_sem, d0, d1, d2, d3, d4]) rfl ⟨bad, ?_⟩
              (repeat first | assumption | exact Below.refl _ _ | (refine Below.setCell ?_ (by simp <;> omega) _) | (refine Below.alloc ?_ (by simp <;> omega) _))
end Go.Proofs.YtopccnoinngmbaaGreatDoor
