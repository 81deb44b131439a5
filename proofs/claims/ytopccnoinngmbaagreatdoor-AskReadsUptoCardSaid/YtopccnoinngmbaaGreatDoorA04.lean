/-
  Addresses and prefixes read and written, as package addr does it.
-/
import Derived.Test.YtopccnoinngmbaaGreatDoorA03
import Derived.Tactics
import Derived.LoopTactic
import Derived.RegionTactic
import Derived.Deep.QuietTactic
import Derived.BigQuiet
import Derived.Outline
import Derived.IntWalk
namespace Go.Proofs.YtopccnoinngmbaaGreatDoor
open Go.RowKit
set_option maxRecDepth 100000
set_option linter.unusedVariables false

theorem split_any (c : UInt8) (s : ByteArray) (hs : s.size ≤ 16777216) {w : World} (E : Env w) :
    Calls Tryz.prog 12 #[.string s, .string ⟨#[c]⟩] w fun e w' => e = .returned (.slice (some ⟨w.heap.size, 0, none⟩) (spl c s).length (spl c s).length) ∧ w' = w.alloc (.cells ((spl c s).map Value.string).toArray 9) := by
  obtain ⟨m, hm⟩ := E.maxl
  rw [spl_length]
  exact Tryz.strings_Split s ⟨#[c]⟩ m w (by omega) hm (Nat.le_refl 1)

/-- strings.Cut at one byte. -/
def cutA (c : UInt8) (s : ByteArray) : ByteArray × ByteArray × Bool :=
  (⟨(Lib.cut s.data.toList [c]).1.toArray⟩, ⟨(Lib.cut s.data.toList [c]).2.1.toArray⟩, (Lib.cut s.data.toList [c]).2.2)
theorem cut_any (c : UInt8) (s : ByteArray) (hs : s.size ≤ 16777216) {w : World} (E : Env w) :
    Calls Tryz.prog 51 #[.string s, .string ⟨#[c]⟩] w fun e w' => e = .returned (.tuple #[.string (cutA c s).1, .string (cutA c s).2.1, .bool (cutA c s).2.2]) ∧ ∃ n, w' = w.drewN n := by
  obtain ⟨m, hm⟩ := E.maxl
  exact Tryz.strings_Cut s ⟨#[c]⟩ m w (by omega) hm
theorem cutA_small (c : UInt8) (s : ByteArray) : (cutA c s).1.size ≤ s.size ∧ (cutA c s).2.1.size ≤ s.size := by
  unfold cutA
  rcases cut_cases c s.data.toList with ⟨_, h⟩ | ⟨x, y, hl, _, h⟩
  · rw [h]; exact ⟨by show s.data.toList.toArray.size ≤ s.data.size; simp, Nat.zero_le _⟩
  · rw [h]
    have hz : s.size = (x ++ c :: y).length := by rw [← hl]; exact (Array.length_toList).symm
    simp at hz
    exact ⟨by show x.toArray.size ≤ s.size; simp; omega, by show y.toArray.size ≤ s.size; simp; omega⟩

/-- What k parts make of an address. -/
def accOf (ws : List ByteArray) : Nat → Option Int
  | 0 => some 0
  | k + 1 => match accOf ws k, num (ws.getD k ⟨#[]⟩) 255 with
    | some a, some n => some (a * 256 + n)
    | _, _ => none
/-- The address of a text. -/
def pAddr (s : ByteArray) : Option Int := if (spl 46 s).length = 4 then accOf (spl 46 s) 4 else none
theorem num_bounds {s : ByteArray} {most n : Int} (h : num s most = some n) : 0 ≤ n ∧ n ≤ most := by
  rcases num_cases s most with ⟨v, _, h0, h1, _, h2⟩ | ⟨h2, _⟩
  · rw [h2] at h; cases h; exact ⟨h0, h1⟩
  · rw [h2] at h; cases h
theorem accOf_bounds {ws : List ByteArray} : ∀ {k : Nat} {a : Int}, accOf ws k = some a → 0 ≤ a ∧ a < 256 ^ k
  | 0, a, h => by cases h; decide
  | k + 1, a, h => by
    unfold accOf at h
    split at h
    · rename_i b n hb hn
      cases h
      obtain ⟨h0, h1⟩ := accOf_bounds hb
      obtain ⟨h2, h3⟩ := num_bounds hn
      have : (256 : Int) ^ (k + 1) = 256 ^ k * 256 := Int.pow_succ _ _
      omega
    · cases h

/-- What addr.Parse returns. -/
def AddrPost (o : Option Int) (e : Ending) : Prop :=
  e = match o with
    | some a => .returned (.tuple #[.int .u32 a, .int .i64 0])
    | none => .returned (.tuple #[.int .u32 0, .int .i64 4])

/-- strings.Split, the pieces under a name of their own. -/
theorem split_as (c : UInt8) (s : ByteArray) {ws : List ByteArray} {n : Nat} (h : spl c s = ws) (hn : ws.length = n) (hs : s.size ≤ 16777216) {w : World} (E : Env w) :
    Calls Tryz.prog 12 #[.string s, .string ⟨#[c]⟩] w fun e w' => e = .returned (.slice (some ⟨w.heap.size, 0, none⟩) n n) ∧ w' = w.alloc (.cells (ws.map Value.string).toArray 9) := by
  subst h; subst hn
  exact split_any c s hs E

theorem accOf_none {ws : List ByteArray} {k : Nat} (h : accOf ws k = none) : ∀ j, k ≤ j → accOf ws j = none := by
  intro j hj
  induction j with
  | zero => obtain rfl : k = 0 := by omega
            exact h
  | succ j ih =>
    by_cases e : k = j + 1
    · subst e; exact h
    · simp [accOf, ih (by omega)]

theorem acc_lt {k : Nat} {a : Int} (hk : k < 4) (h : a < 256 ^ k) : a < 16777216 := by
  rcases (show k = 0 ∨ k = 1 ∨ k = 2 ∨ k = 3 by omega) with rfl | rfl | rfl | rfl <;> simp at h <;> omega
theorem wraps_u32 (n : Int) (h0 : 0 ≤ n) (h1 : n < 2 ^ 32) : IntKind.u32.wrap n = n := by rw [IntKind.wrap_u32]; omega
theorem or_byte {a n : Int} (h0 : 0 ≤ a) (h1 : a < 16777216) (h2 : 0 ≤ n) (h3 : n ≤ 255) : bits .or .u32 (a * 256) n = a * 256 + n :=
  bits_join .u32 32 (by decide) wraps_u32 8 (a * 256) n (by omega) (by omega) (by omega) (by omega) (by omega) (by omega)
/-- The state of addr.Parse's loop. -/
def AddrInv (w : World) (ws : List ByteArray) (k : Nat) (a : Int) (wr : World) : Prop :=
  accOf ws k = some a ∧ Below w.heap.size w wr ∧ wr.heap[w.heap.size]? = some (.cells (ws.map Value.string).toArray 9 (0, 0))

theorem addrParse_four {s : ByteArray} {ws : List ByteArray} (h : spl 46 s = ws) (h4 : ws.length = 4) (hs : s.size ≤ 16777216) {w : World} (E : Env w) :
    Calls Tryz.prog 25 #[.string s] w fun e w' => AddrPost (accOf ws 4) e ∧ Below w.heap.size w w' := by
  have H := Lib.hid h
  have H4 := Lib.hid h4
  have hsm : Hid (∀ x ∈ ws, x.size ≤ s.size) := Lib.hid (by subst h; exact fun x hx => spl_small hx)
  clear h h4
  go_enter Tryz.func25, Tryz.ntmps25
  go_wp2_with (go_at_call 12; refine (split_as 46 s H.out H4.out hs E).mono ?_; rintro e w1 ⟨rfl, rfl⟩)
  go_loopw [5, 14] (fun acc i wr => ∃ (k : Nat) (a : Int), k ≤ 4 ∧ i = .int .i64 k ∧ acc = .int .u32 a ∧ AddrInv w ws k a wr) (fun _ i _ => 4 - (intOf i).toNat)
  case atStart => exact ⟨0, 0, by omega, rfl, rfl, rfl, (Below.refl _ w).alloc (Nat.le_refl _) _, heap_alloc_new _ _⟩
  case round =>
    obtain ⟨k, a, hk, rfl, rfl, hinv⟩ := hrel
    obtain ⟨hacc, hbel, hblk⟩ := hinv
    obtain ⟨ha0, ha1⟩ := accOf_bounds hacc
    by_cases hlt : k < 4
    · obtain ⟨x, hx⟩ : ∃ x, ws[k]? = some x := ⟨ws[k]'(by rw [H4.out]; exact hlt), by simp⟩
      have hxs : x.size ≤ s.size := hsm.out x (List.mem_of_getElem? hx)
      have hcell : wr.cell? ⟨w.heap.size, k, none⟩ = some (.string x) := by simp [World.cell?, hblk, hx]
      have hget : ws.getD k ⟨#[]⟩ = x := by simp [List.getD_eq_getElem?_getD, hx]
      have ha2 : a < 16777216 := acc_lt hlt ha1
      have E1 := Lib.hid (E.below hbel E.many)
      have HX := Lib.hid hx
      have HG := Lib.hid hget
      have HA := Lib.hid hacc
      have HB := Lib.hid hblk
      clear hx hget hacc hblk ha1
      cases hn : num x 255 with
      | none =>
        have hp : AddrPost (accOf ws 4) (.returned (.tuple #[.int .u32 0, .int .i64 4])) := by
          rw [accOf_none (k := k + 1) (by simp only [accOf, HA.out, HG.out, hn]) 4 (by omega)]; rfl
        have HN := Lib.hid hn
        clear hn
        go_wp2_with (go_at_call 52; refine (anumber_none HN.out (by omega) E1.out).mono ?_; rintro e w1 ⟨⟨v, rfl, _, _⟩, hb1⟩)
        go_ret2
        exact ⟨hp, hbel.trans (hb1.mono hbel.size)⟩
      | some n =>
        obtain ⟨ln, un⟩ := num_bounds hn
        have HN := Lib.hid hn
        clear hn
        go_wp2_with (go_at_call 52; refine (anumber_some HN.out (by omega) E1.out).mono ?_; rintro e w1 ⟨rfl, hb1⟩)
        go_roundw
        case rel => exact ⟨k + 1, a * 256 + n, by omega, by go_num, by rw [or_byte ha0 ha2 ln un], by simp only [accOf, HA.out, HG.out, HN.out], hbel.trans (hb1.mono hbel.size), (hb1.block _ (lt_of_block HB.out)).trans HB.out⟩
        case measure => simp [intOf]; omega
    · obtain rfl : k = 4 := by omega
      have hp : AddrPost (accOf ws 4) (.returned (.tuple #[.int .u32 a, .int .i64 0])) := by rw [hacc]; rfl
      clear hacc hblk
      go_wp2
      go_ret2
      exact ⟨hp, hbel⟩

theorem addrParse_other {s : ByteArray} {ws : List ByteArray} {n : Nat} (h : spl 46 s = ws) (hn : ws.length = n) (h4 : n ≠ 4) (hb : n ≤ 16777217) (hs : s.size ≤ 16777216) {w : World} (E : Env w) :
    Calls Tryz.prog 25 #[.string s] w fun e w' => AddrPost none e ∧ Below w.heap.size w w' := by
  have hp : AddrPost none (.returned (.tuple #[.int .u32 0, .int .i64 4])) := rfl
  have hB0 : Below w.heap.size w (w.alloc (.cells (ws.map Value.string).toArray 9)) := (Below.refl _ w).alloc (Nat.le_refl _) _
  have H := Lib.hid h
  have HN := Lib.hid hn
  have h4' : ((n : Int) == 4) = false := by simp; omega
  clear h hn
  go_enter Tryz.func25, Tryz.ntmps25
  go_wp2_with (go_at_call 12; refine (split_as 46 s H.out HN.out hs E).mono ?_; rintro e w1 ⟨rfl, rfl⟩)
  go_ret2
  exact ⟨hp, hB0⟩
theorem addrParse_any (s : ByteArray) (hs : s.size ≤ 16777216) {w : World} (E : Env w) :
    Calls Tryz.prog 25 #[.string s] w fun e w' => AddrPost (pAddr s) e ∧ Below w.heap.size w w' := by
  unfold pAddr
  by_cases h4 : (spl 46 s).length = 4
  · rw [if_pos h4]; exact addrParse_four rfl h4 hs E
  · rw [if_neg h4]
    have h1 : (spl 46 s).length ≤ 16777217 := by
      rw [spl_length]
      have := Lib.countB_le ⟨#[46]⟩ (Nat.le_refl 1) s.size s (Nat.le_refl _)
      omega
    exact addrParse_other rfl rfl h4 h1 hs E

theorem behind_any (n : Int) (h0 : 0 ≤ n) (h1 : n ≤ 32) (w : World) :
    Calls Tryz.prog 80 #[.int .i64 n] w fun e w' => e = .returned (.int .u32 (2 ^ (32 - n.toNat) - 1)) ∧ w' = w := by
  obtain ⟨m, rfl⟩ : ∃ m : Nat, n = m := ⟨n.toNat, by omega⟩
  have hk : m ∈ List.range 33 := List.mem_range.2 (by omega)
  simp [List.range, List.range.loop] at hk
  rcases hk with rfl|rfl|rfl|rfl|rfl|rfl|rfl|rfl|rfl|rfl|rfl|rfl|rfl|rfl|rfl|rfl|rfl|rfl|rfl|rfl|rfl|rfl|rfl|rfl|rfl|rfl|rfl|rfl|rfl|rfl|rfl|rfl|rfl
  all_goals
    go_enter Tryz.func80, Tryz.ntmps80
    go_wp2
    go_ret
    exact ⟨rfl, rfl⟩

/-- Whether a prefix may be. -/
def checkS (a b : Int) : Int := if b < 0 ∨ 32 < b then 1 else if a % 2 ^ (32 - b.toNat) = 0 then 0 else 10
theorem and_mask {a b : Int} (h0 : 0 ≤ a) (h1 : a < 4294967296) : bits .and .u32 a (2 ^ (32 - b.toNat) - 1) = a % 2 ^ (32 - b.toNat) :=
  bits_mask .u32 32 (by decide) wraps_u32 (32 - b.toNat) (by omega) a h0 (by omega)
theorem check_any (a b : Int) (h0 : 0 ≤ a) (h1 : a < 4294967296) (w : World) :
    Calls Tryz.prog 53 #[.agg #[.int .u32 a, .int .i64 b]] w fun e w' => e = .returned (.int .i64 (checkS a b)) ∧ Below w.heap.size w w' := by
  by_cases hb : b < 0 ∨ 32 < b
  · have hc : checkS a b = 1 := if_pos hb
    rw [hc]
    clear hc
    rcases hb with hb | hb
    · go_enter Tryz.func53, Tryz.ntmps53
      go_wp2
      go_ret
      exact ⟨rfl, (Below.refl _ w).alloc (Nat.le_refl _) _⟩
    · have hb2 : ¬ b < 0 := by omega
      go_enter Tryz.func53, Tryz.ntmps53
      go_wp2
      go_ret
      exact ⟨rfl, (Below.refl _ w).alloc (Nat.le_refl _) _⟩
  · have hb1 : 0 ≤ b := by omega
    have hb2 : b ≤ 32 := by omega
    have hm := and_mask (b := b) h0 h1
    have hc : checkS a b = if a % 2 ^ (32 - b.toNat) = 0 then 0 else 10 := if_neg hb
    generalize hM : (2 : Int) ^ (32 - b.toNat) - 1 = M at hm
    clear hb
    by_cases h : a % 2 ^ (32 - b.toNat) = 0
    · rw [hc, if_pos h]
      rw [h] at hm
      have hbeh : ∀ w, Calls Tryz.prog 80 #[.int .i64 b] w fun e w' => e = .returned (.int .u32 M) ∧ w' = w := fun w => hM ▸ behind_any b hb1 hb2 w
      clear hc h hM
      go_enter Tryz.func53, Tryz.ntmps53
      go_wp2
      go_quiet ((go_at_call 80; exact Calls.quiet_of_same (hbeh _)))
      go_wp2
      go_ret
      exact ⟨rfl, below_drewN (below_new w _) _⟩
    · rw [hc, if_neg h]
      have hne : (a % 2 ^ (32 - b.toNat) == 0) = false := by simpa using h
      rw [← hm] at hne
      have hbeh : ∀ w, Calls Tryz.prog 80 #[.int .i64 b] w fun e w' => e = .returned (.int .u32 M) ∧ w' = w := fun w => hM ▸ behind_any b hb1 hb2 w
      clear hc h hM hm
      go_enter Tryz.func53, Tryz.ntmps53
      go_wp2
      go_quiet ((go_at_call 80; exact Calls.quiet_of_same (hbeh _)))
      go_wp2
      go_ret
      exact ⟨rfl, below_drewN (below_new w _) _⟩

/-- The prefix of a text. -/
def pPrefix (s : ByteArray) : Option (Int × Int) :=
  if (cutA 47 s).2.2 then
    match pAddr (cutA 47 s).1, num (cutA 47 s).2.1 32 with
    | some a, some b => if checkS a b = 0 then some (a, b) else none
    | _, _ => none
  else none
theorem pAddr_bounds {s : ByteArray} {a : Int} (h : pAddr s = some a) : 0 ≤ a ∧ a < 4294967296 := by
  unfold pAddr at h
  split at h
  · exact accOf_bounds h
  · cases h
/-- What addr.ParsePrefix returns. -/
def PrefixPost (o : Option (Int × Int)) (e : Ending) : Prop :=
  ∃ a b er : Int, e = .returned (.tuple #[.agg #[.int .u32 a, .int .i64 b], .int .i64 er]) ∧ ((o = some (a, b) ∧ er = 0) ∨ (o = none ∧ er ≠ 0 ∧ a = 0 ∧ b = 0))
theorem prefixPost_none {er : Int} (h : er ≠ 0) : PrefixPost none (.returned (.tuple #[.agg #[.int .u32 0, .int .i64 0], .int .i64 er])) := ⟨0, 0, er, rfl, .inr ⟨rfl, h, rfl, rfl⟩⟩
theorem prefixPost_some (a b : Int) : PrefixPost (some (a, b)) (.returned (.tuple #[.agg #[.int .u32 a, .int .i64 b], .int .i64 0])) := ⟨a, b, 0, rfl, .inl ⟨rfl, rfl⟩⟩
theorem addrPost_some {s : ByteArray} {a : Int} (h : pAddr s = some a) (hs : s.size ≤ 16777216) {w : World} (E : Env w) :
    Calls Tryz.prog 25 #[.string s] w fun e w' => e = .returned (.tuple #[.int .u32 a, .int .i64 0]) ∧ Below w.heap.size w w' := by
  have := addrParse_any s hs E
  rw [h] at this
  exact this
theorem addrPost_none {s : ByteArray} (h : pAddr s = none) (hs : s.size ≤ 16777216) {w : World} (E : Env w) :
    Calls Tryz.prog 25 #[.string s] w fun e w' => e = .returned (.tuple #[.int .u32 0, .int .i64 4]) ∧ Below w.heap.size w w' := by
  have := addrParse_any s hs E
  rw [h] at this
  exact this

theorem parsePrefix_any (s : ByteArray) (hs : s.size ≤ 16777216) {w : World} (E : Env w) :
    Calls Tryz.prog 18 #[.string s] w fun e w' => PrefixPost (pPrefix s) e ∧ Below w.heap.size w w' := by
  obtain ⟨hs1, hs2⟩ := cutA_small 47 s
  have EW : Env (w.alloc (.cells #[.int .u32 0, .int .i64 0] 25)) := E.next (below_new w _)
  have E0 : ∀ (w' : World), Below (w.alloc (.cells #[.int .u32 0, .int .i64 0] 25)).heap.size (w.alloc (.cells #[.int .u32 0, .int .i64 0] 25)) w' → Env w' := fun w' h => EW.next h
  have fin : ∀ {w1 : World}, Below (w.alloc (.cells #[.int .u32 0, .int .i64 0] 25)).heap.size (w.alloc (.cells #[.int .u32 0, .int .i64 0] 25)) w1 → ∀ u v, Below w.heap.size w ((w1.setCell ⟨w.heap.size, 0, none⟩ u).setCell ⟨w.heap.size, 1, none⟩ v) := fun h u v =>
    ((below_seq (below_new w _) h).setCell (Nat.le_refl _) _).setCell (Nat.le_refl _) _
  have bad : PrefixPost none (.returned (.tuple #[.agg #[.int .u32 0, .int .i64 0], .int .i64 4])) := prefixPost_none (by decide)
  cases hc : (cutA 47 s).2.2 with
  | false =>
    have hp : pPrefix s = none := by simp [pPrefix, hc]
    rw [hp]
    clear hp
    cases ha : pAddr (cutA 47 s).1 with
    | none =>
      have HA := Lib.hid ha
      clear ha
      go_enter Tryz.func18, Tryz.ntmps18
      go_wp2_with (first | (go_at_call 51; refine (cut_any 47 s hs EW).mono ?_; rintro e w1 ⟨rfl, n1, rfl⟩) | (go_at_call 25; refine (addrPost_none HA.out (by omega) (E0 _ (below_drewN (Below.refl _ _) _))).mono ?_; rintro e w2 ⟨rfl, hb2⟩; have hb3 := below_seq (below_drewN (Below.refl _ _) _) hb2; clear hb2) | (go_at_call 52; refine (anumber_any _ 32 (by omega) (E0 _ hb3)).mono ?_; rintro e w4 ⟨⟨v, rfl, _, hv0, hv1⟩, hb4⟩; have hb5 := below_seq hb3 hb4; clear hb4; obtain ⟨c0, c1, f0, f1⟩ := two_of (kept_new hb5)))
      exact bodyPost_ret (v := .tuple #[.agg #[.int .u32 0, .int .i64 0], .int .i64 4]) (by simp [results, Tryz.results18, go_sem, c0, c1]) rfl ⟨bad, fin hb5 _ _⟩
    | some a =>
      have HA := Lib.hid ha
      clear ha
      go_enter Tryz.func18, Tryz.ntmps18
      go_wp2_with (first | (go_at_call 51; refine (cut_any 47 s hs EW).mono ?_; rintro e w1 ⟨rfl, n1, rfl⟩) | (go_at_call 25; refine (addrPost_some HA.out (by omega) (E0 _ (below_drewN (Below.refl _ _) _))).mono ?_; rintro e w2 ⟨rfl, hb2⟩; have hb3 := below_seq (below_drewN (Below.refl _ _) _) hb2; clear hb2) | (go_at_call 52; refine (anumber_any _ 32 (by omega) (E0 _ hb3)).mono ?_; rintro e w4 ⟨⟨v, rfl, _, hv0, hv1⟩, hb4⟩; have hb5 := below_seq hb3 hb4; clear hb4; obtain ⟨c0, c1, f0, f1⟩ := two_of (kept_new hb5)))
      exact bodyPost_ret (v := .tuple #[.agg #[.int .u32 0, .int .i64 0], .int .i64 4]) (by simp [results, Tryz.results18, go_sem, c0, c1]) rfl ⟨bad, fin hb5 _ _⟩
  | true =>
    cases ha : pAddr (cutA 47 s).1 with
    | none =>
      have hp : pPrefix s = none := by simp [pPrefix, hc, ha]
      rw [hp]
      clear hp
      cases hb : num (cutA 47 s).2.1 32 with
      | none =>
        have HA := Lib.hid ha
        have HB := Lib.hid hb
        clear ha hb
        go_enter Tryz.func18, Tryz.ntmps18
        go_wp2_with (first | (go_at_call 51; refine (cut_any 47 s hs EW).mono ?_; rintro e w1 ⟨rfl, n1, rfl⟩) | (go_at_call 25; refine (addrPost_none HA.out (by omega) (E0 _ (below_drewN (Below.refl _ _) _))).mono ?_; rintro e w2 ⟨rfl, hb2⟩; have hb3 := below_seq (below_drewN (Below.refl _ _) _) hb2; clear hb2) | (go_at_call 52; refine (anumber_none HB.out (by omega) (E0 _ hb3)).mono ?_; rintro e w4 ⟨⟨v, rfl, _, _⟩, hb4⟩; have hb5 := below_seq hb3 hb4; clear hb4; obtain ⟨c0, c1, f0, f1⟩ := two_of (kept_new hb5)))
        exact bodyPost_ret (v := .tuple #[.agg #[.int .u32 0, .int .i64 0], .int .i64 4]) (by simp [results, Tryz.results18, go_sem, c0, c1]) rfl ⟨bad, fin hb5 _ _⟩
      | some b =>
        have HA := Lib.hid ha
        have HB := Lib.hid hb
        clear ha hb
        go_enter Tryz.func18, Tryz.ntmps18
        go_wp2_with (first | (go_at_call 51; refine (cut_any 47 s hs EW).mono ?_; rintro e w1 ⟨rfl, n1, rfl⟩) | (go_at_call 25; refine (addrPost_none HA.out (by omega) (E0 _ (below_drewN (Below.refl _ _) _))).mono ?_; rintro e w2 ⟨rfl, hb2⟩; have hb3 := below_seq (below_drewN (Below.refl _ _) _) hb2; clear hb2) | (go_at_call 52; refine (anumber_some HB.out (by omega) (E0 _ hb3)).mono ?_; rintro e w4 ⟨rfl, hb4⟩; have hb5 := below_seq hb3 hb4; clear hb4; obtain ⟨c0, c1, f0, f1⟩ := two_of (kept_new hb5)))
        exact bodyPost_ret (v := .tuple #[.agg #[.int .u32 0, .int .i64 0], .int .i64 4]) (by simp [results, Tryz.results18, go_sem, c0, c1]) rfl ⟨bad, fin hb5 _ _⟩
    | some a =>
      cases hb : num (cutA 47 s).2.1 32 with
      | none =>
        have hp : pPrefix s = none := by simp [pPrefix, hc, ha, hb]
        rw [hp]
        clear hp
        have HA := Lib.hid ha
        have HB := Lib.hid hb
        clear ha hb
        go_enter Tryz.func18, Tryz.ntmps18
        go_wp2_with (first | (go_at_call 51; refine (cut_any 47 s hs EW).mono ?_; rintro e w1 ⟨rfl, n1, rfl⟩) | (go_at_call 25; refine (addrPost_some HA.out (by omega) (E0 _ (below_drewN (Below.refl _ _) _))).mono ?_; rintro e w2 ⟨rfl, hb2⟩; have hb3 := below_seq (below_drewN (Below.refl _ _) _) hb2; clear hb2) | (go_at_call 52; refine (anumber_none HB.out (by omega) (E0 _ hb3)).mono ?_; rintro e w4 ⟨⟨v, rfl, _, _⟩, hb4⟩; have hb5 := below_seq hb3 hb4; clear hb4; obtain ⟨c0, c1, f0, f1⟩ := two_of (kept_new hb5)))
        exact bodyPost_ret (v := .tuple #[.agg #[.int .u32 0, .int .i64 0], .int .i64 4]) (by simp [results, Tryz.results18, go_sem, c0, c1]) rfl ⟨bad, fin hb5 _ _⟩
      | some b =>
        have hp : pPrefix s = if checkS a b = 0 then some (a, b) else none := by simp [pPrefix, hc, ha, hb]
        obtain ⟨la, ua⟩ := pAddr_bounds ha
        have HA := Lib.hid ha
        have HB := Lib.hid hb
        rw [hp]
        clear hp ha hb
        by_cases hk : checkS a b = 0
        · have hch : ∀ w, Calls Tryz.prog 53 #[.agg #[.int .u32 a, .int .i64 b]] w fun e w' => e = .returned (.int .i64 0) ∧ Below w.heap.size w w' := fun w => hk ▸ check_any a b la ua w
          rw [if_pos hk]
          clear hk
          have hpost := prefixPost_some a b
          go_enter Tryz.func18, Tryz.ntmps18
          go_wp2_with (first | (go_at_call 51; refine (cut_any 47 s hs EW).mono ?_; rintro e w1 ⟨rfl, n1, rfl⟩) | (go_at_call 25; refine (addrPost_some HA.out (by omega) (E0 _ (below_drewN (Below.refl _ _) _))).mono ?_; rintro e w2 ⟨rfl, hb2⟩; have hb3 := below_seq (below_drewN (Below.refl _ _) _) hb2; clear hb2) | (go_at_call 52; refine (anumber_some HB.out (by omega) (E0 _ hb3)).mono ?_; rintro e w4 ⟨rfl, hb4⟩; have hb5 := below_seq hb3 hb4; clear hb4) | (go_at_call 53; refine (hch _).mono ?_; rintro e w6 ⟨rfl, hb6⟩; obtain ⟨p0, p1, -, -⟩ := two_of (kept_new hb6); have hb7 := below_seq (below_seq hb5 (below_new _ _)) hb6; obtain ⟨c0, c1, f0, f1⟩ := two_of (kept_new hb7)))
          exact bodyPost_ret (v := .tuple #[.agg #[.int .u32 a, .int .i64 b], .int .i64 0]) (by simp [results, Tryz.results18, go_sem, c0, c1]) rfl ⟨hpost, fin hb7 _ _⟩
        · have hch := check_any a b la ua
          rw [if_neg hk]
          generalize checkS a b = r at hk hch
          have hk' : (r == 0) = false := by simpa using hk
          have hpost := prefixPost_none hk
          clear hk
          go_enter Tryz.func18, Tryz.ntmps18
          go_wp2_with (first | (go_at_call 51; refine (cut_any 47 s hs EW).mono ?_; rintro e w1 ⟨rfl, n1, rfl⟩) | (go_at_call 25; refine (addrPost_some HA.out (by omega) (E0 _ (below_drewN (Below.refl _ _) _))).mono ?_; rintro e w2 ⟨rfl, hb2⟩; have hb3 := below_seq (below_drewN (Below.refl _ _) _) hb2; clear hb2) | (go_at_call 52; refine (anumber_some HB.out (by omega) (E0 _ hb3)).mono ?_; rintro e w4 ⟨rfl, hb4⟩; have hb5 := below_seq hb3 hb4; clear hb4) | (go_at_call 53; refine (hch _).mono ?_; rintro e w6 ⟨rfl, hb6⟩; obtain ⟨p0, p1, -, -⟩ := two_of (kept_new hb6); have hb7 := below_seq (below_seq hb5 (below_new _ _)) hb6; obtain ⟨c0, c1, f0, f1⟩ := two_of (kept_new hb7)))
          exact bodyPost_ret (v := .tuple #[.agg #[.int .u32 0, .int .i64 0], .int .i64 r]) (by simp [results, Tryz.results18, go_sem, c0, c1]) rfl ⟨hpost, fin hb7 _ _⟩
end Go.Proofs.YtopccnoinngmbaaGreatDoor
