/-
  Addresses, prefixes and headers written, as the packages addr and header do it.
  Numbers written and read, as the reference does it.
  Decimal numerals: plain lists.
-/
import Derived.Test.YtopccnoinngmbaaGreatDoorA04
import Derived.Lib.ItoaLen
import Derived.Deep.RegionHeld3
import Derived.Laws.BytesArg
import Derived.Lib.ItoaNum
import Derived.Lib.AtoiAll
import Derived.Lib.ParseIntB

/- Addresses, prefixes and headers written, as the packages addr and header do it. -/
namespace Go.Proofs.YtopccnoinngmbaaGreatDoor
open Go.RowKit
set_option maxRecDepth 100000
set_option linter.unusedVariables false
set_option linter.unusedSimpArgs false

/-- The parts of an address's text. -/
def part (a : Int) : Nat → Int
  | 0 => a / 16777216
  | 1 => a / 65536 % 256
  | 2 => a / 256 % 256
  | _ => a % 256
def bs (n : Int) : ByteArray := ⟨(Lib.itoa n).toArray⟩
/-- The array of addr.Text behind k rounds. -/
def tarr (a : Int) (k : Nat) : Array Value :=
  #[.string (if 0 < k then bs (part a 0) else ⟨#[]⟩), .string (if 1 < k then bs (part a 1) else ⟨#[]⟩), .string (if 2 < k then bs (part a 2) else ⟨#[]⟩), .string (if 3 < k then bs (part a 3) else ⟨#[]⟩)]
theorem and_255 {x : Int} (h0 : 0 ≤ x) (h1 : x < 4294967296) : bits .and .u32 x 255 = x % 256 :=
  bits_mask .u32 32 (by decide) wraps_u32 8 (by omega) x h0 (by omega)
def TInv (w : World) (a : Int) (k : Nat) (wr : World) : Prop := Below w.heap.size w wr ∧ wr.heap[w.heap.size]? = some (.cells (tarr a k) 112 (0, 0))

theorem itoa_len {n : Int} (h0 : -9223372036854775808 ≤ n) (h1 : n ≤ 9223372036854775807) : (Lib.itoa n).length ≤ 21 := Lib.itoa_length_le n h0 h1
theorem part_bounds {a : Int} (h0 : 0 ≤ a) (h1 : a < 4294967296) (k : Nat) : 0 ≤ part a k ∧ part a k ≤ 255 := by
  unfold part; split <;> omega
/-- An address's text. -/
def textA (a : Int) : List UInt8 := joinL 46 [Lib.itoa (part a 0), Lib.itoa (part a 1), Lib.itoa (part a 2), Lib.itoa (part a 3)]
theorem joinText {w wr : World} {a : Int} (h0 : 0 ≤ a) (h1 : a < 4294967296) (h : TInv w a 4 wr) :
    Calls Tryz.prog 24 #[.slice (some ⟨w.heap.size, 0, none⟩) 4 4, .string ⟨#[46]⟩] wr fun e w' => e = .returned (.string ⟨(textA a).toArray⟩) ∧ Below wr.heap.size wr w' := by
  obtain ⟨hb, hk⟩ := h
  have hx : Lib.join ([bs (part a 0), bs (part a 1), bs (part a 2), bs (part a 3)].map (·.data.toList)) (⟨#[46]⟩ : ByteArray).data.toList = textA a := by
    rw [join_eq]; simp [bs, textA]
  have hl : (textA a).length ≤ 140737488355328 := by
    have l0 := itoa_len (n := part a 0) (by have := part_bounds h0 h1 0; omega) (by have := part_bounds h0 h1 0; omega)
    have l1 := itoa_len (n := part a 1) (by have := part_bounds h0 h1 1; omega) (by have := part_bounds h0 h1 1; omega)
    have l2 := itoa_len (n := part a 2) (by have := part_bounds h0 h1 2; omega) (by have := part_bounds h0 h1 2; omega)
    have l3 := itoa_len (n := part a 3) (by have := part_bounds h0 h1 3; omega) (by have := part_bounds h0 h1 3; omega)
    simp [textA, joinL]; omega
  have := Tryz.strings_Join w.heap.size 0 4 [bs (part a 0), bs (part a 1), bs (part a 2), bs (part a 3)] ⟨#[46]⟩ wr (by
    intro j x hj
    rw [cell_at hk]
    match j, hj with
    | 0, hj => cases hj; rfl
    | 1, hj => cases hj; rfl
    | 2, hj => cases hj; rfl
    | 3, hj => cases hj; rfl) (lt_of_block hk) (by simp) (Nat.le_refl _) (by rw [hx]; exact hl)
  rw [hx] at this
  exact this
theorem addrText_any (a : Int) (h0 : 0 ≤ a) (h1 : a < 4294967296) {w : World} (E : Env w) :
    Calls Tryz.prog 42 #[.int .u32 a] w fun e w' => e = .returned (.string ⟨(textA a).toArray⟩) ∧ Below w.heap.size w w' := by
  go_enter Tryz.func42, Tryz.ntmps42
  go_wp2
  go_loopw [5] (fun i wr => ∃ k : Nat, k ≤ 4 ∧ i = .int .i64 k ∧ TInv w a k wr) (fun i _ => 4 - (intOf i).toNat)
  case atStart => exact ⟨0, by omega, rfl, below_new w _, heap_alloc_new _ _⟩
  case round =>
    obtain ⟨k, hk, rfl, hbel, hblk⟩ := hrel
    by_cases hlt : k < 4
    · rcases (show k = 0 ∨ k = 1 ∨ k = 2 ∨ k = 3 by omega) with rfl | rfl | rfl | rfl
      · have e0 : bits .and .u32 (a / 16777216) 255 = part a 0 := by rw [and_255 (by omega) (by omega)]; show _ = a / 16777216; omega
        have b0 : 0 ≤ part a 0 := by show 0 ≤ a / 16777216; omega
        have b1 : part a 0 ≤ 255 := by show a / 16777216 ≤ 255; omega
        have ht : (tarr a 0).setIfInBounds 0 (.string (bs (part a 0))) = tarr a (0 + 1) := by simp [tarr]
        unfold bs at ht
        generalize hd : part a 0 = d at e0 b0 b1 ht
        have HT := Lib.hid ht
        clear ht hd
        go_wp2_with (go_at_call 39; refine (itoa_any d (by omega) (by omega) (E.next hbel)).mono ?_; rintro e w1 ⟨rfl, hb1⟩; have k1 := Lib.hid (kept_old hb1 hblk); have c1 := cell_at k1.out 0; simp only [tarr, List.getElem?_toArray, List.getElem?_cons_succ, List.getElem?_cons_zero] at c1; have f1 := free_at k1.out 0)
        go_roundw
        case rel => exact ⟨1, by omega, rfl, (below_seq hbel hb1).setCell (Nat.le_refl _) _, by rw [block_setCell k1.out, HT.out]⟩
        case measure => simp [intOf]
      · have e0 : bits .and .u32 (a / 65536) 255 = part a 1 := by rw [and_255 (by omega) (by omega)]; rfl
        have b0 : 0 ≤ part a 1 := by show 0 ≤ a / 65536 % 256; omega
        have b1 : part a 1 ≤ 255 := by show a / 65536 % 256 ≤ 255; omega
        have ht : (tarr a 1).setIfInBounds 1 (.string (bs (part a 1))) = tarr a (1 + 1) := by simp [tarr]
        unfold bs at ht
        generalize hd : part a 1 = d at e0 b0 b1 ht
        have HT := Lib.hid ht
        clear ht hd
        go_wp2_with (go_at_call 39; refine (itoa_any d (by omega) (by omega) (E.next hbel)).mono ?_; rintro e w1 ⟨rfl, hb1⟩; have k1 := Lib.hid (kept_old hb1 hblk); have c1 := cell_at k1.out 1; simp only [tarr, List.getElem?_toArray, List.getElem?_cons_succ, List.getElem?_cons_zero] at c1; have f1 := free_at k1.out 1)
        go_roundw
        case rel => exact ⟨2, by omega, rfl, (below_seq hbel hb1).setCell (Nat.le_refl _) _, by rw [block_setCell k1.out, HT.out]⟩
        case measure => simp [intOf]
      · have e0 : bits .and .u32 (a / 256) 255 = part a 2 := by rw [and_255 (by omega) (by omega)]; rfl
        have b0 : 0 ≤ part a 2 := by show 0 ≤ a / 256 % 256; omega
        have b1 : part a 2 ≤ 255 := by show a / 256 % 256 ≤ 255; omega
        have ht : (tarr a 2).setIfInBounds 2 (.string (bs (part a 2))) = tarr a (2 + 1) := by simp [tarr]
        unfold bs at ht
        generalize hd : part a 2 = d at e0 b0 b1 ht
        have HT := Lib.hid ht
        clear ht hd
        go_wp2_with (go_at_call 39; refine (itoa_any d (by omega) (by omega) (E.next hbel)).mono ?_; rintro e w1 ⟨rfl, hb1⟩; have k1 := Lib.hid (kept_old hb1 hblk); have c1 := cell_at k1.out 2; simp only [tarr, List.getElem?_toArray, List.getElem?_cons_succ, List.getElem?_cons_zero] at c1; have f1 := free_at k1.out 2)
        go_roundw
        case rel => exact ⟨3, by omega, rfl, (below_seq hbel hb1).setCell (Nat.le_refl _) _, by rw [block_setCell k1.out, HT.out]⟩
        case measure => simp [intOf]
      · have e0 : bits .and .u32 (a) 255 = part a 3 := by rw [and_255 (by omega) (by omega)]; rfl
        have b0 : 0 ≤ part a 3 := by show 0 ≤ a % 256; omega
        have b1 : part a 3 ≤ 255 := by show a % 256 ≤ 255; omega
        have ht : (tarr a 3).setIfInBounds 3 (.string (bs (part a 3))) = tarr a (3 + 1) := by simp [tarr]
        unfold bs at ht
        generalize hd : part a 3 = d at e0 b0 b1 ht
        have HT := Lib.hid ht
        clear ht hd
        go_wp2_with (go_at_call 39; refine (itoa_any d (by omega) (by omega) (E.next hbel)).mono ?_; rintro e w1 ⟨rfl, hb1⟩; have k1 := Lib.hid (kept_old hb1 hblk); have c1 := cell_at k1.out 3; simp only [tarr, List.getElem?_toArray, List.getElem?_cons_succ, List.getElem?_cons_zero] at c1; have f1 := free_at k1.out 3)
        go_roundw
        case rel => exact ⟨4, by omega, rfl, (below_seq hbel hb1).setCell (Nat.le_refl _) _, by rw [block_setCell k1.out, HT.out]⟩
        case measure => simp [intOf]
    · obtain rfl : k = 4 := by omega
      go_wp2_with (go_at_call 24; refine (joinText h0 h1 ⟨hbel, hblk⟩).mono ?_; rintro e w1 ⟨rfl, hb1⟩)
      go_ret
      exact ⟨rfl, below_seq hbel hb1⟩
theorem textA_len {a : Int} (h0 : 0 ≤ a) (h1 : a < 4294967296) : (textA a).length ≤ 87 := by
  have l0 := itoa_len (n := part a 0) (by have := part_bounds h0 h1 0; omega) (by have := part_bounds h0 h1 0; omega)
  have l1 := itoa_len (n := part a 1) (by have := part_bounds h0 h1 1; omega) (by have := part_bounds h0 h1 1; omega)
  have l2 := itoa_len (n := part a 2) (by have := part_bounds h0 h1 2; omega) (by have := part_bounds h0 h1 2; omega)
  have l3 := itoa_len (n := part a 3) (by have := part_bounds h0 h1 3; omega) (by have := part_bounds h0 h1 3; omega)
  simp [textA, joinL]; omega

/-- A prefix's text. -/
def textP (a b : Int) : List UInt8 := textA a ++ 47 :: Lib.itoa b
theorem prefixText_any (a b : Int) (h0 : 0 ≤ a) (h1 : a < 4294967296) (b0 : -9223372036854775808 ≤ b) (b1 : b ≤ 9223372036854775807) {w : World} (E : Env w) :
    Calls Tryz.prog 40 #[.agg #[.int .u32 a, .int .i64 b]] w fun e w' => e = .returned (.string ⟨(textP a b).toArray⟩) ∧ Below w.heap.size w w' := by
  have EW : Env (w.alloc (.cells #[.int .u32 a, .int .i64 b] 25)) := E.next (below_new w _)
  go_enter Tryz.func40, Tryz.ntmps40
  go_wp2
  have l1 := textA_len h0 h1
  have l2 := itoa_len b0 b1
  have l3 : ¬ 9223372036854775807 < (textA a).length + 1 := by omega
  have l4 : ¬ 9223372036854775807 < (textA a).length + 1 + (Lib.itoa b).length := by omega
  have s2 : Below (w.alloc (.cells #[.int .u32 a, .int .i64 b] 25)).heap.size (w.alloc (.cells #[.int .u32 a, .int .i64 b] 25)) (w.alloc (.cells #[.int .u32 a, .int .i64 b] 25)).drew := (Below.refl _ _).drew
  have s0 := (two_of (kept_new s2)).1
  have s1 := (two_of (kept_new s2)).2.1
  go_region_held3 (fun w' => w'.cell? ⟨w.heap.size, 0, none⟩ = some (.int .u32 a) ∧ w'.cell? ⟨w.heap.size, 1, none⟩ = some (.int .i64 b) ∧ Below (w.alloc (.cells #[.int .u32 a, .int .i64 b] 25)).heap.size (w.alloc (.cells #[.int .u32 a, .int .i64 b] 25)) w')
    (first | exact ⟨s0, s1, s2⟩ | (go_split_ands; (try dsimp only); (repeat' apply And.intro); all_goals (have hq : Below (w.alloc (.cells #[.int .u32 a, .int .i64 b] 25)).heap.size (w.alloc (.cells #[.int .u32 a, .int .i64 b] 25)) _ := below_seq (by assumption) hb1; first | exact (two_of (kept_new hq)).1 | exact (two_of (kept_new hq)).2.1 | exact hq)) | go_keep)
    (first | (go_at_call 42; refine (addrText_any a h0 h1 (EW.next (by first | exact s2 | (go_split_ands; assumption)))).mono ?_; rintro e w1 ⟨rfl, hb1⟩) | (go_at_call 39; refine (itoa_any b b0 b1 (EW.next (by first | exact s2 | (go_split_ands; assumption)))).mono ?_; rintro e w1 ⟨rfl, hb1⟩))
  go_wp2
  go_ret
  go_split_ands
  exact ⟨ret_str (by simp [textP]), below_seq (below_new w _) (by assumption)⟩
end Go.Proofs.YtopccnoinngmbaaGreatDoor

/- Numbers written and read, as the reference does it. -/
namespace Go.Proofs.YtopccnoinngmbaaGreatDoor
open Go.RowKit
set_option maxRecDepth 100000
set_option maxHeartbeats 16000000
set_option linter.unusedVariables false
set_option linter.unusedSimpArgs false

theorem u82 : Tryz.prog.underlying 82 = some (.slice 5) := by kernel_rfl
theorem uu5 : Tryz.prog.underlying 5 = some (.int .u8) := by kernel_rfl
theorem uu9 : Tryz.prog.underlying 9 = some .string := by kernel_rfl
/-- A string of one byte. -/
def one (d : Int) : ByteArray := ⟨#[UInt8.ofNat d.toNat]⟩
theorem conv_one (w : World) (d : Int) : (convert 82 9 (.slice (some ⟨w.heap.size, 0, none⟩) 1 1)).run Tryz.prog (w.alloc (.cells #[.int .u8 d] 5)) = .ok (.string (one d)) (w.alloc (.cells #[.int .u8 d] 5)) := by
  have h := run_convert_bytes_arg (P := Tryz.prog) (w := w.alloc (.cells #[.int .u8 d] 5)) 82 5 u82 uu5 w.heap.size 0 1 1 [d] rfl (fun i hi => by
    obtain rfl : i = 0 := by omega
    rw [cell_at (heap_alloc_new w _)]; rfl) 9 uu9
  exact h
theorem dec_step {m : Nat} (h : ¬ m < 10) : Lib.decDigits m = Lib.decDigits (m / 10) ++ [UInt8.ofNat (48 + m % 10)] := by
  rw [Lib.decDigits, dif_neg h]
theorem dec_len {u : Nat} (h : u < 18446744073709551616) : (Lib.decDigits u).length ≤ 20 := by
  rw [Lib.decDigits_length]; exact Lib.nDigits_le20 u h
def DigR (w : World) (u : Nat) (m : Nat) (t : List UInt8) (wr : World) : Prop := Lib.decDigits m ++ t = Lib.decDigits u ∧ Below w.heap.size w wr
theorem digR_step {w : World} {u m : Nat} {t : List UInt8} {wr w1 : World} (h : DigR w u m t wr) (hm : ¬ m < 10) (hb : Below w.heap.size w w1) : DigR w u (m / 10) (UInt8.ofNat (48 + m % 10) :: t) w1 := by
  refine ⟨?_, hb⟩
  rw [← h.1, dec_step hm]; simp
theorem one_app (d : Int) (t : List UInt8) : one d ++ ⟨t.toArray⟩ = ⟨(UInt8.ofNat d.toNat :: t).toArray⟩ := by
  apply ByteArray.ext; simp [one]
theorem dec_pos (m : Nat) : 1 ≤ (Lib.decDigits m).length := by rw [Lib.decDigits_length]; exact Lib.nDigits_pos m
theorem one_dig (m : Nat) : UInt8.ofNat ((48 + (m : Int))).toNat = UInt8.ofNat (48 + m) := by rw [show (48 + (m : Int)).toNat = 48 + m by omega]
theorem one_size (d : Int) : (one d).size = 1 := rfl
theorem digits_any (u : Nat) (hu : u < 18446744073709551616) {w : World} :
    Calls Tryz.prog 69 #[.int .u64 u] w fun e w' => e = .returned (.string ⟨(Lib.decDigits u).toArray⟩) ∧ Below w.heap.size w w' := by
  have L := dec_len hu
  have hcv := conv_one
  go_enter Tryz.func69, Tryz.ntmps69
  go_wp2
  go_loopw [0, 3] (fun n s wr => ∃ (m : Nat) (t : List UInt8), n = .int .u64 m ∧ s = .string ⟨t.toArray⟩ ∧ m < 18446744073709551616 ∧ t.length ≤ 20 ∧ DigR w u m t wr) (fun n _ _ => (intOf n).toNat)
  case atStart => exact ⟨u, [], rfl, rfl, hu, by simp, by simp, Below.refl _ _⟩
  case round =>
    obtain ⟨m, t, rfl, rfl, hm, ht, hr⟩ := hrel
    obtain ⟨hd, hbel⟩ := hr
    have hsz := congrArg List.length hd
    rw [List.length_append] at hsz
    have HD := Lib.hid hd
    clear hd
    have hl : ¬ 9223372036854775807 < 1 + t.length := by omega
    have hoz := one_size
    have dp := dec_pos m
    by_cases h9 : m < 10
    · have h9' : ¬ ((m : Int) > 9) := by omega
      go_wp2
      go_ret
      refine ⟨?_, ?_⟩
      · apply ret_str
        rw [one_app, one_dig, ← HD.out, Lib.decDigits_one h9]; rfl
      · exact hbel.alloc hbel.size _
    · have h9' : (m : Int) > 9 := by omega
      go_wp2
      go_roundw
      case rel => exact ⟨m / 10, UInt8.ofNat (48 + m % 10) :: t, (by go_num), (by rw [one_app, show (48 + (m : Int) % 10).toNat = 48 + m % 10 by omega]), by omega, by simp; omega, digR_step ⟨HD.out, hbel⟩ h9 (hbel.alloc hbel.size _)⟩
      case measure => simp [intOf]; omega
theorem digits_as {x : Int} (u : Nat) (hx : x = u) (hu : u < 18446744073709551616) {w : World} :
    Calls Tryz.prog 69 #[.int .u64 x] w fun e w' => e = .returned (.string ⟨(Lib.decDigits u).toArray⟩) ∧ Below w.heap.size w w' := by
  subst hx; exact digits_any u hu
theorem itoa_pos (m : Nat) : Lib.itoa (m : Int) = Lib.decDigits m := by rw [Lib.itoa, if_neg (by omega)]; rfl
theorem itoa_neg (m : Nat) : Lib.itoa (-(m : Int) - 1) = 45 :: Lib.decDigits (m + 1) := by rw [Lib.itoa, if_pos (by omega)]; congr 2; omega
/-- A number's form. -/
theorem number01_any (n : Int) (h0 : -9223372036854775808 ≤ n) (h1 : n ≤ 9223372036854775807) {w : World} :
    Calls Tryz.prog 45 #[.int .i64 n] w fun e w' => e = .returned (.string ⟨(Lib.itoa n).toArray⟩) ∧ Below w.heap.size w w' := by
  by_cases hn : n < 0
  · obtain ⟨m, hm⟩ : ∃ m : Nat, n = -(m : Int) - 1 := ⟨(-n - 1).toNat, by omega⟩
    subst hm
    have L := dec_len (u := m + 1) (by omega)
    have hl : ¬ 9223372036854775807 < 1 + (Lib.decDigits (m + 1)).length := by omega
    go_enter Tryz.func45, Tryz.ntmps45
    go_wp2_with (go_at_call 69; (with_reducible refine (digits_as (m + 1) (by omega) (by omega)).mono ?_); rintro e w1 ⟨rfl, hb⟩)
    go_ret
    exact ⟨ret_str (by rw [itoa_neg]; simp), hb⟩
  · obtain ⟨m, rfl⟩ : ∃ m : Nat, n = m := ⟨n.toNat, by omega⟩
    go_enter Tryz.func45, Tryz.ntmps45
    go_wp2_with (go_at_call 69; (with_reducible refine (digits_any m (by omega)).mono ?_); rintro e w1 ⟨rfl, hb⟩)
    go_ret
    exact ⟨ret_str (by rw [itoa_pos]), hb⟩
end Go.Proofs.YtopccnoinngmbaaGreatDoor

/- Decimal numerals: plain lists. -/
namespace Go.Proofs.YtopccnoinngmbaaGreatDoor
open Go.Lib
set_option linter.unusedVariables false

def isD (c : UInt8) : Bool := 48 ≤ c.toNat && c.toNat ≤ 57
def valF (n : Nat) (l : List UInt8) : Nat := l.foldl (fun n c => 10 * n + (c.toNat - 48)) n
def val (l : List UInt8) : Nat := valF 0 l
theorem valF_cons (n : Nat) (c : UInt8) (l : List UInt8) : valF n (c :: l) = valF (10 * n + (c.toNat - 48)) l := by simp only [valF, List.foldl_cons]
theorem valF_app (n : Nat) (l m : List UInt8) : valF n (l ++ m) = valF (valF n l) m := by unfold valF; rw [List.foldl_append]
theorem val_snoc (l : List UInt8) (c : UInt8) : val (l ++ [c]) = 10 * val l + (c.toNat - 48) := by
  simp only [val, valF, List.foldl_append, List.foldl_cons, List.foldl_nil]
theorem valF_ge : ∀ (l : List UInt8) (n : Nat), n ≤ valF n l
  | [], n => Nat.le_refl _
  | c :: l, n => by rw [valF_cons]; have := valF_ge l (10 * n + (c.toNat - 48)); omega
theorem isD_nat {c : UInt8} (h : isD c = true) : 48 ≤ c.toNat ∧ c.toNat ≤ 57 := by
  unfold isD at h; rw [Bool.and_eq_true] at h; exact ⟨of_decide_eq_true h.1, of_decide_eq_true h.2⟩
theorem parse10_ok : ∀ (l : List UInt8) (n : Nat), l.all isD = true → valF n l < 18446744073709551616 → parseUint10 n l = .ok (valF n l)
  | [], n, _, _ => rfl
  | c :: l, n, h, hv => by
    rw [List.all_cons, Bool.and_eq_true] at h
    obtain ⟨h1, h2⟩ := isD_nat h.1
    rw [valF_cons] at hv ⊢
    have hg := valF_ge l (10 * n + (c.toNat - 48))
    rw [parseUint10, if_pos ⟨h1, h2⟩, if_neg (by omega), if_neg (by omega), show n * 10 + (c.toNat - 48) = 10 * n + (c.toNat - 48) by omega]
    exact parse10_ok l _ h.2 hv
theorem parseM_ok {M : Nat} (hM : M < 18446744073709551616) : ∀ (l : List UInt8) (n : Nat), l.all isD = true → valF n l ≤ M → parseUintM M n l = .ok (valF n l)
  | [], n, _, _ => rfl
  | c :: l, n, h, hv => by
    rw [List.all_cons, Bool.and_eq_true] at h
    obtain ⟨h1, h2⟩ := isD_nat h.1
    rw [valF_cons] at hv ⊢
    have hg := valF_ge l (10 * n + (c.toNat - 48))
    rw [parseUintM, if_pos ⟨h1, h2⟩, if_neg (by omega), if_neg (by omega), show n * 10 + (c.toNat - 48) = 10 * n + (c.toNat - 48) by omega]
    exact parseM_ok hM l _ h.2 hv
theorem d_byte {d : Nat} (h : d < 10) : isD (UInt8.ofNat (48 + d)) = true ∧ (UInt8.ofNat (48 + d)).toNat = 48 + d := by
  have : (UInt8.ofNat (48 + d)).toNat = 48 + d := by rw [UInt8.toNat_ofNat']; omega
  refine ⟨?_, this⟩
  unfold isD; rw [this]; simp; omega
theorem byte_d {c : UInt8} (h : isD c = true) : UInt8.ofNat (48 + (c.toNat - 48)) = c := by
  obtain ⟨h1, h2⟩ := isD_nat h
  rw [show 48 + (c.toNat - 48) = c.toNat by omega, UInt8.ofNat_toNat]
theorem dec_ne (u : Nat) : decDigits u ≠ [] := by
  intro h
  have := congrArg List.length h
  rw [decDigits_length] at this
  have := nDigits_pos u
  simp at *; omega
theorem dec_big {m : Nat} (h : ¬ m < 10) : decDigits m = decDigits (m / 10) ++ [UInt8.ofNat (48 + m % 10)] := by
  rw [decDigits, dif_neg h]
/-- What a numeral is. -/
theorem dec_all (u : Nat) : (decDigits u).all isD = true ∧ val (decDigits u) = u ∧ ((decDigits u).head? = some 48 → u = 0) := by
  by_cases h : u < 10
  · rw [decDigits_one h]
    obtain ⟨h1, h2⟩ := d_byte h
    refine ⟨by rw [List.all_cons, h1]; rfl, ?_, ?_⟩
    · show 10 * 0 + ((UInt8.ofNat (48 + u)).toNat - 48) = u; rw [h2]; omega
    · intro e
      have e1 : UInt8.ofNat (48 + u) = 48 := by simpa using e
      have e2 := congrArg UInt8.toNat e1
      rw [h2] at e2
      have : (48 : UInt8).toNat = 48 := rfl
      omega
  · obtain ⟨i1, i2, i3⟩ := dec_all (u / 10)
    obtain ⟨h1, h2⟩ := d_byte (d := u % 10) (by omega)
    rw [dec_big h]
    refine ⟨by rw [List.all_append, i1, List.all_cons, h1]; rfl, ?_, ?_⟩
    · rw [val_snoc, i2, h2]; omega
    · intro e
      have e' : (decDigits (u / 10)).head? = some 48 := by
        cases hd : decDigits (u / 10) with
        | nil => exact absurd hd (dec_ne _)
        | cons x t => rw [hd] at e; simpa using e
      have := i3 e'
      omega
termination_by u
decreasing_by omega
/-- The numerals: not empty, digits alone, no nought ahead but that of 0. -/
def canon (l : List UInt8) : Prop := l ≠ [] ∧ l.all isD = true ∧ (l.length ≤ 1 ∨ l.head? ≠ some 48)
theorem canon_dec (u : Nat) : canon (decDigits u) := by
  obtain ⟨h1, h2, h3⟩ := dec_all u
  refine ⟨dec_ne u, h1, ?_⟩
  by_cases h : u < 10
  · left; rw [decDigits_one h]; exact Nat.le_refl _
  · right; intro e; have := h3 e; omega
theorem dec_val_aux : ∀ (n : Nat) (l : List UInt8), l.length = n → canon l → decDigits (val l) = l
  | n, l, hn, ⟨hne, hd, hh⟩ => by
    obtain ⟨m, c, rfl⟩ : ∃ m c, l = m ++ [c] := ⟨l.dropLast, l.getLast hne, (List.dropLast_concat_getLast hne).symm⟩
    rw [List.all_append, Bool.and_eq_true] at hd
    have hc : isD c = true := by simpa using hd.2
    obtain ⟨c1, c2⟩ := isD_nat hc
    cases m with
    | nil =>
      have : val ([] ++ [c]) = c.toNat - 48 := by rw [val_snoc]; simp [val, valF]
      rw [this, decDigits_one (by omega), byte_d hc]; rfl
    | cons b m =>
      have hh' : (b :: m).head? ≠ some 48 := by
        rcases hh with h | h
        · simp at h
        · simpa using h
      have ih := dec_val_aux (b :: m).length (b :: m) rfl ⟨by simp, hd.1, .inr hh'⟩
      have hpos : val (b :: m) ≠ 0 := by
        intro e
        rw [e, decDigits_one (by decide)] at ih
        have : b = 48 := by
          have := congrArg List.head? ih
          simpa using this.symm
        exact hh' (by rw [this]; rfl)
      have hv : val ((b :: m) ++ [c]) = 10 * val (b :: m) + (c.toNat - 48) := val_snoc _ _
      rw [hv, dec_big (by omega), show (10 * val (b :: m) + (c.toNat - 48)) / 10 = val (b :: m) by omega, ih, show (10 * val (b :: m) + (c.toNat - 48)) % 10 = c.toNat - 48 by omega, byte_d hc]
termination_by n => n
decreasing_by simp at hn; simp; omega
theorem dec_val {l : List UInt8} (h : canon l) : decDigits (val l) = l := dec_val_aux _ l rfl h
theorem itoa_nat (u : Nat) : itoa (u : Int) = decDigits u := by rw [itoa, if_neg (by omega)]; rfl
theorem atoi_dec {u : Nat} (h : u < 9223372036854775808) : atoiAll (decDigits u) = .ok (u : Int) := by
  obtain ⟨h1, h2, h3⟩ := dec_all u
  have hp : parseUint10 0 (decDigits u) = .ok u := by
    have := parse10_ok (decDigits u) 0 h1 (by show val _ < _; rw [h2]; omega)
    rw [this]; show NumEnd.ok (val _) = _; rw [h2]
  cases hd : decDigits u with
  | nil => exact absurd hd (dec_ne u)
  | cons c r =>
    rw [hd] at h1 hp
    rw [List.all_cons, Bool.and_eq_true] at h1
    obtain ⟨d1, d2⟩ := isD_nat h1.1
    have hm : parseMag (if c.toNat = 43 ∨ c.toNat = 45 then r else c :: r) = .ok u := by
      rw [if_neg (by omega), parseMag, if_neg (by simp)]; exact hp
    rw [atoiAll]
    simp only [hm]
    rw [if_neg (by omega), if_neg (by omega), if_neg (by omega)]
theorem uint_dec {k u : Nat} (hk : k ≤ 64) (h : u < 2 ^ k) : parseUintB k (decDigits u) = .ok u := by
  obtain ⟨h1, h2, h3⟩ := dec_all u
  have h64 : 2 ^ k ≤ 2 ^ 64 := Nat.pow_le_pow_right (by decide) hk
  have hp := parseM_ok (M := 2 ^ k - 1) (by omega) (decDigits u) 0 h1 (by show val _ ≤ _; rw [h2]; omega)
  rw [parseUintB, if_neg (dec_ne u), hp]
  show NumEnd.ok (val _) = _; rw [h2]
theorem dec_short {u : Nat} (h : u < 100000) : (decDigits u).length ≤ 5 := by
  rw [decDigits_length]
  by_cases h1 : u < 10
  · rw [nDigits_small h1]; omega
  rw [nDigits_big h1]
  by_cases h2 : u / 10 < 10
  · rw [nDigits_small h2]; omega
  rw [nDigits_big h2]
  by_cases h3 : u / 10 / 10 < 10
  · rw [nDigits_small h3]; omega
  rw [nDigits_big h3]
  by_cases h4 : u / 10 / 10 / 10 < 10
  · rw [nDigits_small h4]; omega
  rw [nDigits_big h4]
  rw [nDigits_small (by omega)]; omega
theorem val_lt : ∀ (l : List UInt8) , l.all isD = true → val l < 10 ^ l.length := by
  have key : ∀ (l : List UInt8) (n : Nat), l.all isD = true → valF n l < (n + 1) * 10 ^ l.length := by
    intro l
    induction l with
    | nil => intro n _; simp [valF]
    | cons c l ih =>
      intro n h
      rw [List.all_cons, Bool.and_eq_true] at h
      obtain ⟨h1, h2⟩ := isD_nat h.1
      rw [valF_cons]
      refine Nat.lt_of_lt_of_le (ih _ h.2) ?_
      rw [List.length_cons, Nat.pow_succ, Nat.mul_comm (10 ^ l.length) 10, ← Nat.mul_assoc]
      exact Nat.mul_le_mul_right _ (by omega)
  intro l h
  have := key l 0 h
  simpa [val] using this
end Go.Proofs.YtopccnoinngmbaaGreatDoor
