/-
  Names, as lex.Name asks.
-/
import Derived.Test.YtopccnoinngmbaaGreatDoorA03
import Derived.Tactics
import Derived.LoopTactic
import Derived.Outline
import Derived.Deep.QuietTactic
import Derived.BigQuiet
import Derived.Laws.RangeString
import Derived.Laws.RangeAny
import Derived.WalkMore
namespace Go.Proofs.YtopccnoinngmbaaGreatDoor
open Go.RowKit
set_option maxRecDepth 100000
set_option linter.unusedVariables false
set_option linter.unusedSimpArgs false

theorem rune_error {w : World} :
    Calls Tryz.prog 50 #[.string ⟨#[45, 95, 46, 47]⟩, .int .i32 65533] w fun e w' => e = .returned (.int .i64 (-1)) ∧ Below w.heap.size w w' := by
  have n0 : ∀ ty, (Instr.next (.pointer (some ⟨w.heap.size, 0, none⟩)) true ty).run Tryz.prog (w.iter ⟨#[45, 95, 46, 47]⟩ 0) = _ := fun ty => run_next_ascii w ⟨#[45, 95, 46, 47]⟩ 0 ty (by decide) (by decide)
  have n1 : ∀ ty, (Instr.next (.pointer (some ⟨w.heap.size, 0, none⟩)) true ty).run Tryz.prog (w.iter ⟨#[45, 95, 46, 47]⟩ 1) = _ := fun ty => run_next_ascii w ⟨#[45, 95, 46, 47]⟩ 1 ty (by decide) (by decide)
  have n2 : ∀ ty, (Instr.next (.pointer (some ⟨w.heap.size, 0, none⟩)) true ty).run Tryz.prog (w.iter ⟨#[45, 95, 46, 47]⟩ 2) = _ := fun ty => run_next_ascii w ⟨#[45, 95, 46, 47]⟩ 2 ty (by decide) (by decide)
  have n3 : ∀ ty, (Instr.next (.pointer (some ⟨w.heap.size, 0, none⟩)) true ty).run Tryz.prog (w.iter ⟨#[45, 95, 46, 47]⟩ 3) = _ := fun ty => run_next_ascii w ⟨#[45, 95, 46, 47]⟩ 3 ty (by decide) (by decide)
  have n4 : ∀ ty, (Instr.next (.pointer (some ⟨w.heap.size, 0, none⟩)) true ty).run Tryz.prog (w.iter ⟨#[45, 95, 46, 47]⟩ 4) = _ := fun ty => run_next_end w ⟨#[45, 95, 46, 47]⟩ 4 ty (by decide)
  go_enter Tryz.func50, Tryz.ntmps50
  go_wp2
  refine wp_loop_rounds 5 ?_
  rw [rounds_succ]
  go_wp2
  rw [rounds_succ]
  go_wp2
  rw [rounds_succ]
  go_wp2
  rw [rounds_succ]
  go_wp2
  rw [rounds_succ]
  go_wp2
  go_ret
  exact ⟨rfl, below_new w _⟩

theorem encode_last (r : Int) (h0 : 128 ≤ r) : ∃ (es : ByteArray) (n : Nat), Utf8.encode r = es ∧ es.size = n + 1 ∧ 1 ≤ n ∧ n ≤ 3 ∧ ∃ h : n < es.size, 128 ≤ (es[n]'h).toNat := by
  unfold Utf8.encode
  generalize hc : (if Utf8.valid r then r.toNat else Utf8.runeError) = c
  have hc' : 128 ≤ c := by
    rw [← hc]
    split
    · omega
    · decide
  have hb : ∀ x : Nat, x < 64 → 128 ≤ (UInt8.ofNat (0x80 + x)).toNat := fun x hx => by
    rw [UInt8.toNat_ofNat']; omega
  dsimp only
  rw [if_neg (by omega)]
  split
  · exact ⟨_, 1, rfl, rfl, by omega, by omega, by show 1 < 2; omega, hb _ (by omega)⟩
  · split
    · exact ⟨_, 2, rfl, rfl, by omega, by omega, by show 2 < 3; omega, hb _ (by omega)⟩
    · exact ⟨_, 3, rfl, rfl, by omega, by omega, by show 3 < 4; omega, hb _ (by omega)⟩
theorem indexByte_high (x : UInt8) (hx : 128 ≤ x.toNat) (l : List UInt8) (h : ∀ b ∈ l, b.toNat < 128) : Lib.indexByte l x = -1 := by
  induction l with
  | nil => rfl
  | cons b l ih =>
    have hb : (b == x) = false := by
      rw [beq_eq_false_iff_ne]
      rintro rfl
      have := h b (List.mem_cons_self)
      omega
    rw [Lib.indexByte, hb, ih (fun c hc => h c (List.mem_cons_of_mem _ hc))]
    rfl

theorem byte_back (x : UInt8) : ((x.toNat : Int)).toNat.toUInt8 = x := by simp
theorem rune_valid (r : Int) (h0 : 128 ≤ r) (h1 : r ≤ 2147483647) (hne : r ≠ 65533) (hv : Lib.validRune r = true) {w : World} :
    Calls Tryz.prog 50 #[.string ⟨#[45, 95, 46, 47]⟩, .int .i32 r] w fun e w' => e = .returned (.int .i64 (-1)) ∧ Below w.heap.size w w' := by
  have hne' : (r == 65533) = false := by simpa using hne
  obtain ⟨es, n, he, hn, n1, n3, hl, hb⟩ := encode_last r h0
  have ib : ∀ (l : ByteArray), (∀ b ∈ l.data.toList, b.toNat < 128) → ∀ w, Calls Tryz.prog 75 #[.string l, .int .u8 ((es[n]'hl).toNat : Int)] w fun e w' => e = .returned (.int .i64 (-1)) ∧ w' = w := fun l hl' w => by
    have := Tryz.strings_IndexByte l ((es[n]'hl).toNat : Int) w
    rw [byte_back, indexByte_high _ hb _ hl'] at this
    exact this
  have ib2 : ∀ (a b : Nat) w, Calls Tryz.prog 75 #[.string ((⟨#[45, 95, 46, 47]⟩ : ByteArray).extract a b), .int .u8 ((es[n]'hl).toNat : Int)] w fun e w' => e = .returned (.int .i64 (-1)) ∧ w' = w := fun a b w => ib _ (fun c hc => by
    rw [Lib.extract_data] at hc
    have h4 := List.mem_of_mem_drop (List.mem_of_mem_take hc)
    simp at h4
    rcases h4 with rfl | rfl | rfl | rfl <;> decide) w
  have ib3 : ∀ w, Calls Tryz.prog 75 #[.string ⟨#[]⟩, .int .u8 ((es[n]'hl).toNat : Int)] w fun e w' => e = .returned (.int .i64 (-1)) ∧ w' = w := fun w => ib ⟨#[]⟩ (by simp) w
  have hz : es.size = n + 1 := hn
  have hi1 : (0 : Int) ≤ (n : Int) := by omega
  have hi2 : (n : Int) < (es.size : Int) := by omega
  have v2 : IntKind.i64.wrap 2 = 2 := by decide
  have v3 : IntKind.i64.wrap 3 = 3 := by decide
  have v4 : IntKind.i64.wrap 4 = 4 := by decide
  rcases (show n = 1 ∨ n = 2 ∨ n = 3 by omega) with rfl | rfl | rfl
  · have hq : ((((⟨#[45, 95, 46, 47]⟩ : ByteArray)[1]'(by decide)).toNat : Int) != ((es[1]'hl).toNat : Int)) = true := by
      have : ((⟨#[45, 95, 46, 47]⟩ : ByteArray)[1]'(by decide)).toNat < 128 := by decide
      simp only [bne_iff_ne, ne_eq]; omega
    go_enter Tryz.func50, Tryz.ntmps50
    go_wp2_with (go_at_call 76; refine (Tryz.utf8_ValidRune r _).mono ?_; rintro e w1 ⟨rfl, hw1⟩; subst hw1)
    go_step3
    go_wp2
    refine wp_loop_rounds 1 ?_
    rw [rounds_succ]
    go_wp2
    go_step3
    go_wp2
    go_quiet (fail)
    have hB : Below w1.heap.size w1 (w1.drewN nq) := below_drewN (Below.refl _ _) _
    generalize w1.drewN nq = w2 at hB ⊢
    go_wp2
    go_quiet ((go_at_call 75; exact Calls.quiet_of_same (ib2 _ _ _)))
    go_wp2
    rw [Exit.noGoto_ret]
    simp only [Exit.inBlock, Exit.then]
    rw [Exit.noGoto_ret]
    go_ret
    exact ⟨rfl, below_drewN hB _⟩
  · have hq : ((((⟨#[45, 95, 46, 47]⟩ : ByteArray)[2]'(by decide)).toNat : Int) != ((es[2]'hl).toNat : Int)) = true := by
      have : ((⟨#[45, 95, 46, 47]⟩ : ByteArray)[2]'(by decide)).toNat < 128 := by decide
      simp only [bne_iff_ne, ne_eq]; omega
    go_enter Tryz.func50, Tryz.ntmps50
    go_wp2_with (go_at_call 76; refine (Tryz.utf8_ValidRune r _).mono ?_; rintro e w1 ⟨rfl, hw1⟩; subst hw1)
    go_step3
    go_wp2
    refine wp_loop_rounds 1 ?_
    rw [rounds_succ]
    go_wp2
    go_step3
    go_wp2
    go_quiet (fail)
    have hB : Below w1.heap.size w1 (w1.drewN nq) := below_drewN (Below.refl _ _) _
    generalize w1.drewN nq = w2 at hB ⊢
    go_wp2
    go_quiet ((go_at_call 75; exact Calls.quiet_of_same (ib2 _ _ _)))
    go_wp2
    rw [Exit.noGoto_ret]
    simp only [Exit.inBlock, Exit.then]
    rw [Exit.noGoto_ret]
    go_ret
    exact ⟨rfl, below_drewN hB _⟩
  · have hq : ((((⟨#[45, 95, 46, 47]⟩ : ByteArray)[3]'(by decide)).toNat : Int) != ((es[3]'hl).toNat : Int)) = true := by
      have : ((⟨#[45, 95, 46, 47]⟩ : ByteArray)[3]'(by decide)).toNat < 128 := by decide
      simp only [bne_iff_ne, ne_eq]; omega
    go_enter Tryz.func50, Tryz.ntmps50
    go_wp2_with (go_at_call 76; refine (Tryz.utf8_ValidRune r _).mono ?_; rintro e w1 ⟨rfl, hw1⟩; subst hw1)
    go_step3
    go_wp2
    refine wp_loop_rounds 1 ?_
    rw [rounds_succ]
    go_wp2
    go_step3
    go_wp2
    go_quiet (fail)
    have hB : Below w1.heap.size w1 (w1.drewN nq) := below_drewN (Below.refl _ _) _
    generalize w1.drewN nq = w2 at hB ⊢
    go_wp2
    go_quiet ((go_at_call 75; exact Calls.quiet_of_same (ib3 _)))
    go_wp2
    rw [Exit.noGoto_ret]
    simp only [Exit.inBlock, Exit.then]
    rw [Exit.noGoto_ret]
    go_ret
    exact ⟨rfl, below_drewN hB _⟩
theorem rune_wrong (r : Int) (h0 : 128 ≤ r) (h1 : r ≤ 2147483647) (hne : r ≠ 65533) (hv : Lib.validRune r = false) {w : World} :
    Calls Tryz.prog 50 #[.string ⟨#[45, 95, 46, 47]⟩, .int .i32 r] w fun e w' => e = .returned (.int .i64 (-1)) ∧ Below w.heap.size w w' := by
  have hne' : (r == 65533) = false := by simpa using hne
  go_enter Tryz.func50, Tryz.ntmps50
  go_wp2_with (go_at_call 76; refine (Tryz.utf8_ValidRune r _).mono ?_; rintro e w1 ⟨rfl, hw1⟩; subst hw1)
  go_ret
  exact ⟨rfl, Below.refl _ _⟩
theorem rune_any (r : Int) (h0 : 128 ≤ r) (h1 : r ≤ 2147483647) {w : World} :
    Calls Tryz.prog 50 #[.string ⟨#[45, 95, 46, 47]⟩, .int .i32 r] w fun e w' => e = .returned (.int .i64 (-1)) ∧ Below w.heap.size w w' := by
  by_cases hne : r = 65533
  · subst hne; exact rune_error
  · cases hv : Lib.validRune r with
    | true => exact rune_valid r h0 h1 hne hv
    | false => exact rune_wrong r h0 h1 hne hv

/-- A letter. -/
def letterB (c : UInt8) : Bool := (97 ≤ c.toNat && c.toNat ≤ 122) || (65 ≤ c.toNat && c.toNat ≤ 90)
/-- What may stand behind a name's first letter. -/
def tailB (c : UInt8) : Bool := letterB c || (48 ≤ c.toNat && c.toNat ≤ 57) || c.toNat == 45 || c.toNat == 95 || c.toNat == 46 || c.toNat == 47
/-- A name: a letter, and at most 31 of these. -/
def isName : List UInt8 → Bool
  | [] => false
  | c :: l => letterB c && l.all tailB && decide (l.length < 32)
/-- The bytes from a place on. -/
def nameFrom (k : Nat) (l : List UInt8) : Bool := if k = 0 then (match l with | [] => true | c :: t => letterB c && t.all tailB) else l.all tailB

theorem name_empty {w : World} (s : ByteArray) (h : s.data.toList = []) : Calls Tryz.prog 15 #[.string s] w fun e w' => e = .returned (.bool false) ∧ Below w.heap.size w w' := by
  have h1 : s.toList = [] := by rw [ByteArray.toList_eq]; exact h
  go_enter Tryz.func15, Tryz.ntmps15
  go_wp2
  go_ret
  exact ⟨rfl, Below.refl _ _⟩
set_option maxHeartbeats 4000000
theorem name_long {w : World} (s : ByteArray) (h0 : s.toList ≠ []) (h : 32 < s.size) (h3 : s.size ≤ 16777216) : Calls Tryz.prog 15 #[.string s] w fun e w' => e = .returned (.bool false) ∧ Below w.heap.size w w' := by
  have h1 : s.toList.isEmpty = false := by simpa using h0
  go_enter Tryz.func15, Tryz.ntmps15
  go_wp2
  go_ret
  exact ⟨rfl, Below.refl _ _⟩
theorem nameFrom_letter {k : Nat} {c : UInt8} {l : List UInt8} (h : letterB c = true) : nameFrom k (c :: l) = nameFrom (k + 1) l := by
  unfold nameFrom
  split
  · rw [if_neg (by omega)]; simp [h]
  · rw [if_neg (by omega)]; simp [tailB, h]
theorem nameFrom_tail {k : Nat} {c : UInt8} {l : List UInt8} (hk : k ≠ 0) (h : tailB c = true) : nameFrom k (c :: l) = nameFrom (k + 1) l := by
  unfold nameFrom
  rw [if_neg hk, if_neg (by omega)]; simp [h]
theorem nameFrom_bad0 {c : UInt8} {l : List UInt8} (h : letterB c = false) : nameFrom 0 (c :: l) = false := by
  simp [nameFrom, h]
theorem nameFrom_bad {k : Nat} {c : UInt8} {l : List UInt8} (hk : k ≠ 0) (h : tailB c = false) : nameFrom k (c :: l) = false := by
  unfold nameFrom
  rw [if_neg hk]; simp [h]
theorem sym_fin : ∀ n : Fin 256, (Lib.indexByte [45, 95, 46, 47] (UInt8.ofNat n.val) < 0) ↔ ¬ (n.val = 45 ∨ n.val = 95 ∨ n.val = 46 ∨ n.val = 47) := by
  decide +kernel
theorem sym_index (c : UInt8) : (Lib.indexByte [45, 95, 46, 47] c < 0) ↔ ¬ (c.toNat = 45 ∨ c.toNat = 95 ∨ c.toNat = 46 ∨ c.toNat = 47) := by
  have := sym_fin ⟨c.toNat, c.toNat_lt⟩
  rwa [show UInt8.ofNat (⟨c.toNat, c.toNat_lt⟩ : Fin 256).val = c from UInt8.ofNat_toNat] at this
theorem iter_below (w : World) (s : ByteArray) (pos : Nat) : Below w.heap.size w (w.iter s pos) := below_new w _
theorem name_loop {w : World} (s : ByteArray) (h0 : s.toList ≠ []) (h : s.size ≤ 32) : Calls Tryz.prog 15 #[.string s] w fun e w' => e = .returned (.bool (nameFrom 0 s.data.toList)) ∧ Below w.heap.size w w' := by
  have h1 : s.toList.isEmpty = false := by simpa using h0
  go_enter Tryz.func15, Tryz.ntmps15
  go_wp2
  go_loopw [] (fun wr => ∃ pos : Nat, pos ≤ s.size ∧ wr = w.iter s pos ∧ nameFrom 0 s.data.toList = nameFrom pos (s.data.toList.drop pos)) (fun wr => s.size - wr.iterPos w.heap.size)
  case atStart => exact ⟨0, Nat.zero_le _, rfl, rfl⟩
  case round =>
    obtain ⟨pos, hp, rfl, hn⟩ := hrel
    by_cases hlt : pos < s.size
    · have hd : s.data.toList.drop pos = s[pos] :: s.data.toList.drop (pos + 1) := by
        have hl : pos < s.data.toList.length := by simpa using hlt
        rw [List.drop_eq_getElem_cons hl]
        congr 1
      rw [hd] at hn
      have HN := Lib.hid hn
      clear hn hd
      by_cases ha : s[pos].toNat < 128
      · have hnx : ∀ ty, (Instr.next (.pointer (some ⟨w.heap.size, 0, none⟩)) true ty).run Tryz.prog (w.iter s pos) = _ := fun ty => run_next_ascii w s pos ty hlt ha
        have hc0 : (0 : Int) ≤ (s[pos].toNat : Int) := by omega
        have hir := Tryz.strings_IndexRune_ascii ⟨#[45, 95, 46, 47]⟩ (s[pos].toNat : Int) (w.iter s (pos + 1)) (by omega) (by omega)
        rw [show (s[pos].toNat : Int).toNat.toUInt8 = s[pos] from byte_back _] at hir
        have hsym := sym_index s[pos]
        rw [show (⟨#[45, 95, 46, 47]⟩ : ByteArray).data.toList = [45, 95, 46, 47] from rfl] at hir
        generalize hix : Lib.indexByte [45, 95, 46, 47] s[pos] = ix at hir hsym
        have HS := Lib.hid hsym
        clear hsym hix
        rcases (show (97 ≤ s[pos].toNat ∧ s[pos].toNat ≤ 122) ∨ (65 ≤ s[pos].toNat ∧ s[pos].toNat ≤ 90) ∨ s[pos].toNat ≤ 47 ∨ (48 ≤ s[pos].toNat ∧ s[pos].toNat ≤ 57) ∨ (58 ≤ s[pos].toNat ∧ s[pos].toNat ≤ 64) ∨ (91 ≤ s[pos].toNat ∧ s[pos].toNat ≤ 96) ∨ (123 ≤ s[pos].toNat ∧ s[pos].toNat ≤ 127) by omega) with ⟨r1, r2⟩ | ⟨r1, r2⟩ | r2 | ⟨r1, r2⟩ | ⟨r1, r2⟩ | ⟨r1, r2⟩ | ⟨r1, r2⟩
        · have hL : letterB s[pos] = true := by simp [letterB]; omega
          go_wp2
          go_roundw
          case rel => exact ⟨pos + 1, by omega, rfl, by rw [HN.out, nameFrom_letter hL]⟩
          case measure => simp; omega
        · have hL : letterB s[pos] = true := by simp [letterB]; omega
          go_wp2
          go_roundw
          case rel => exact ⟨pos + 1, by omega, rfl, by rw [HN.out, nameFrom_letter hL]⟩
          case measure => simp; omega
        · have hL : letterB s[pos] = false := by simp [letterB]; omega
          by_cases hz : pos = 0
          · subst hz
            have hf : nameFrom 0 s.data.toList = false := by rw [HN.out, nameFrom_bad0 hL]
            have HF := Lib.hid hf
            clear hf
            go_wp2
            go_ret
            exact ⟨by rw [HF.out]; rfl, iter_below _ _ _⟩
          · have hz' : ¬ (pos : Int) = 0 := by omega
            have hzb : ((pos : Int) == 0) = false := by simpa using hz
            by_cases hs : (s[pos].toNat = 45 ∨ s[pos].toNat = 95 ∨ s[pos].toNat = 46 ∨ s[pos].toNat = 47)
            · have hT : tailB s[pos] = true := by simp [tailB]; omega
              have hx : 0 ≤ ix := by have := HS.out; omega
              clear hs
              go_wp2_with (go_at_call 50; refine hir.mono ?_; rintro e w1 ⟨rfl, hw1⟩; subst hw1)
              go_roundw
              case rel => exact ⟨pos + 1, by omega, rfl, by rw [HN.out, nameFrom_tail hz hT]⟩
              case measure => simp; omega
            · have hT : tailB s[pos] = false := by simp [tailB, hL]; omega
              have hx : ix < 0 := HS.out.2 hs
              clear hs
              have hf : nameFrom 0 s.data.toList = false := by rw [HN.out, nameFrom_bad hz hT]
              have HF := Lib.hid hf
              clear hf
              go_wp2_with (go_at_call 50; refine hir.mono ?_; rintro e w1 ⟨rfl, hw1⟩; subst hw1)
              go_ret
              exact ⟨by rw [HF.out]; rfl, iter_below _ _ _⟩
        · have hL : letterB s[pos] = false := by simp [letterB]; omega
          by_cases hz : pos = 0
          · subst hz
            have hf : nameFrom 0 s.data.toList = false := by rw [HN.out, nameFrom_bad0 hL]
            have HF := Lib.hid hf
            clear hf
            go_wp2
            go_ret
            exact ⟨by rw [HF.out]; rfl, iter_below _ _ _⟩
          · have hz' : ¬ (pos : Int) = 0 := by omega
            have hzb : ((pos : Int) == 0) = false := by simpa using hz
            have hT : tailB s[pos] = true := by simp [tailB]; omega
            go_wp2
            go_roundw
            case rel => exact ⟨pos + 1, by omega, rfl, by rw [HN.out, nameFrom_tail hz hT]⟩
            case measure => simp; omega
        · have hL : letterB s[pos] = false := by simp [letterB]; omega
          by_cases hz : pos = 0
          · subst hz
            have hf : nameFrom 0 s.data.toList = false := by rw [HN.out, nameFrom_bad0 hL]
            have HF := Lib.hid hf
            clear hf
            go_wp2
            go_ret
            exact ⟨by rw [HF.out]; rfl, iter_below _ _ _⟩
          · have hz' : ¬ (pos : Int) = 0 := by omega
            have hzb : ((pos : Int) == 0) = false := by simpa using hz
            have hT : tailB s[pos] = false := by simp [tailB, hL]; omega
            have hx : ix < 0 := HS.out.2 (by omega)
            have hf : nameFrom 0 s.data.toList = false := by rw [HN.out, nameFrom_bad hz hT]
            have HF := Lib.hid hf
            clear hf
            go_wp2_with (go_at_call 50; refine hir.mono ?_; rintro e w1 ⟨rfl, hw1⟩; subst hw1)
            go_ret
            exact ⟨by rw [HF.out]; rfl, iter_below _ _ _⟩
        · have hL : letterB s[pos] = false := by simp [letterB]; omega
          have q90 : decide ((s[pos].toNat : Int) ≤ 90) = false := by simp; omega
          by_cases hz : pos = 0
          · subst hz
            have hf : nameFrom 0 s.data.toList = false := by rw [HN.out, nameFrom_bad0 hL]
            have HF := Lib.hid hf
            clear hf
            go_wp2
            go_ret
            exact ⟨by rw [HF.out]; rfl, iter_below _ _ _⟩
          · have hz' : ¬ (pos : Int) = 0 := by omega
            have hzb : ((pos : Int) == 0) = false := by simpa using hz
            by_cases hs : (s[pos].toNat = 45 ∨ s[pos].toNat = 95 ∨ s[pos].toNat = 46 ∨ s[pos].toNat = 47)
            · have hT : tailB s[pos] = true := by simp [tailB]; omega
              have hx : 0 ≤ ix := by have := HS.out; omega
              clear hs
              go_wp2_with (go_at_call 50; refine hir.mono ?_; rintro e w1 ⟨rfl, hw1⟩; subst hw1)
              go_roundw
              case rel => exact ⟨pos + 1, by omega, rfl, by rw [HN.out, nameFrom_tail hz hT]⟩
              case measure => simp; omega
            · have hT : tailB s[pos] = false := by simp [tailB, hL]; omega
              have hx : ix < 0 := HS.out.2 hs
              clear hs
              have hf : nameFrom 0 s.data.toList = false := by rw [HN.out, nameFrom_bad hz hT]
              have HF := Lib.hid hf
              clear hf
              go_wp2_with (go_at_call 50; refine hir.mono ?_; rintro e w1 ⟨rfl, hw1⟩; subst hw1)
              go_ret
              exact ⟨by rw [HF.out]; rfl, iter_below _ _ _⟩
        · have hL : letterB s[pos] = false := by simp [letterB]; omega
          have q90 : decide ((s[pos].toNat : Int) ≤ 90) = false := by simp; omega
          have q122 : decide ((s[pos].toNat : Int) ≤ 122) = false := by simp; omega
          by_cases hz : pos = 0
          · subst hz
            have hf : nameFrom 0 s.data.toList = false := by rw [HN.out, nameFrom_bad0 hL]
            have HF := Lib.hid hf
            clear hf
            go_wp2
            go_ret
            exact ⟨by rw [HF.out]; rfl, iter_below _ _ _⟩
          · have hz' : ¬ (pos : Int) = 0 := by omega
            have hzb : ((pos : Int) == 0) = false := by simpa using hz
            have hT : tailB s[pos] = false := by simp [tailB, hL]; omega
            have hx : ix < 0 := HS.out.2 (by omega)
            have hf : nameFrom 0 s.data.toList = false := by rw [HN.out, nameFrom_bad hz hT]
            have HF := Lib.hid hf
            clear hf
            go_wp2_with (go_at_call 50; refine hir.mono ?_; rintro e w1 ⟨rfl, hw1⟩; subst hw1)
            go_ret
            exact ⟨by rw [HF.out]; rfl, iter_below _ _ _⟩
      · have hnx : ∀ ty, (Instr.next (.pointer (some ⟨w.heap.size, 0, none⟩)) true ty).run Tryz.prog (w.iter s pos) = _ := fun ty => run_next_any w s pos ty hlt
        obtain ⟨d1, d2⟩ := decode_high s pos hlt (by omega)
        have d3 := decode_le s pos
        have hL : letterB s[pos] = false := by simp [letterB]; omega
        have hT : tailB s[pos] = false := by simp [tailB, hL]; omega
        generalize hdc : Utf8.decode s pos = dc at hnx d1 d2 d3
        obtain ⟨rn, wd⟩ := dc
        dsimp only at d1 d2 d3 hnx
        clear hdc
        have d1' : (128 : Int) ≤ (rn : Int) := by omega
        have q90 : decide ((rn : Int) ≤ 90) = false := by simp; omega
        have q122 : decide ((rn : Int) ≤ 122) = false := by simp; omega
        have q57 : decide ((rn : Int) ≤ 57) = false := by simp; omega
        by_cases hz : pos = 0
        · subst hz
          have hf : nameFrom 0 s.data.toList = false := by rw [HN.out, nameFrom_bad0 hL]
          have HF := Lib.hid hf
          clear hf
          go_wp2
          go_ret
          exact ⟨by rw [HF.out]; rfl, iter_below _ _ _⟩
        · have hzb : ((pos : Int) == 0) = false := by simpa using hz
          have hf : nameFrom 0 s.data.toList = false := by rw [HN.out, nameFrom_bad hz hT]
          have HF := Lib.hid hf
          clear hf
          go_wp2_with (go_at_call 50; refine (rune_any (rn : Int) (by omega) (by omega)).mono ?_; rintro e w1 ⟨rfl, hb1⟩)
          go_ret
          exact ⟨by rw [HF.out]; rfl, below_seq (iter_below _ _ _) hb1⟩
    · have hnx : ∀ ty, (Instr.next (.pointer (some ⟨w.heap.size, 0, none⟩)) true ty).run Tryz.prog (w.iter s pos) = _ := fun ty => run_next_end w s pos ty hlt
      have hf : nameFrom 0 s.data.toList = true := by
        rw [hn, List.drop_eq_nil_of_le (by have : s.data.toList.length = s.size := Array.length_toList; omega)]
        unfold nameFrom; split <;> rfl
      have HF := Lib.hid hf
      clear hf hn
      go_wp2
      go_ret
      exact ⟨by rw [HF.out]; rfl, iter_below _ _ _⟩
theorem isName_eq (l : List UInt8) (h0 : l ≠ []) (h : l.length ≤ 32) : nameFrom 0 l = isName l := by
  cases l with
  | nil => exact absurd rfl h0
  | cons c t =>
    simp only [List.length_cons] at h
    have : decide (t.length < 32) = true := by simp; omega
    simp [nameFrom, isName, this]
/-- lex.Name. -/
theorem name_any (s : ByteArray) (hs : s.size ≤ 16777216) {w : World} : Calls Tryz.prog 15 #[.string s] w fun e w' => e = .returned (.bool (isName s.data.toList)) ∧ Below w.heap.size w w' := by
  have hz : s.data.toList.length = s.size := Array.length_toList
  by_cases h0 : s.data.toList = []
  · have : isName s.data.toList = false := by rw [h0]; rfl
    rw [this]; exact name_empty s h0
  · have h0' : s.toList ≠ [] := by rw [ByteArray.toList_eq]; exact h0
    by_cases h : s.size ≤ 32
    · rw [← isName_eq _ h0 (by omega)]; exact name_loop s h0' h
    · have : isName s.data.toList = false := by
        cases hl : s.data.toList with
        | nil => rfl
        | cons c t =>
          rw [hl] at hz
          simp only [List.length_cons] at hz
          have : decide (t.length < 32) = false := by simp; omega
          simp [isName, this]
      rw [this]; exact name_long s h0' (by omega) hs
end Go.Proofs.YtopccnoinngmbaaGreatDoor
