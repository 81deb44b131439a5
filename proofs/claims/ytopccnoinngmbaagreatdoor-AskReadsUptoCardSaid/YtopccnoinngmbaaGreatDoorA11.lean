/-
  Names, as the reference reads them.
-/
import Derived.Test.YtopccnoinngmbaaGreatDoorA07
import Derived.Test.YtopccnoinngmbaaGreatDoorA10
namespace Go.Proofs.YtopccnoinngmbaaGreatDoor
open Go.RowKit
set_option maxRecDepth 100000
set_option maxHeartbeats 16000000
set_option linter.unusedVariables false
set_option linter.unusedSimpArgs false

/-- The first k bytes of a name. -/
def okN : List UInt8 → Bool
  | [] => true
  | c :: t => letterB c && t.all tailB
theorem okN_snoc {l : List UInt8} {c : UInt8} (h : l ≠ []) : okN (l ++ [c]) = (okN l && tailB c) := by
  cases l with
  | nil => exact absurd rfl h
  | cons a t => simp [okN, Bool.and_assoc]
theorem okN_next {s : ByteArray} {k : Nat} (hk : k < s.size) (h : okN (s.data.toList.take k) = true) (hb : letterB s[k] = true ∨ (k ≠ 0 ∧ tailB s[k] = true)) : okN (s.data.toList.take (k + 1)) = true := by
  rw [take_next s k hk]
  by_cases h0 : k = 0
  · subst h0
    rcases hb with hb | ⟨hb, _⟩
    · simp [okN, hb]
    · exact absurd rfl hb
  · rw [okN_snoc (by intro e; have := congrArg List.length e; rw [List.length_take, size_list, List.length_nil] at this; omega), h]
    rcases hb with hb | ⟨_, hb⟩
    · simp [tailB, hb]
    · simp [hb]
theorem name_bad {s : ByteArray} {k : Nat} (hk : k < s.size) (hb : letterB s[k] = false) (hb2 : k = 0 ∨ tailB s[k] = false) : isName s.data.toList = false := by
  have hd := drop_hit (s := s) (f := 0) (k := k) (Nat.zero_le _) hk
  simp only [List.drop_zero, Nat.sub_zero] at hd
  by_cases h0 : k = 0
  · subst h0
    rw [hd]; simp [isName, hb]
  · rcases hb2 with hb2 | hb2
    · exact absurd hb2 h0
    · cases ht : s.data.toList.take k with
      | nil => have := congrArg List.length ht; rw [List.length_take, size_list, List.length_nil] at this; omega
      | cons a t =>
        rw [hd, ht]; simp [isName, hb2]
theorem name_end {s : ByteArray} (h : okN (s.data.toList.take s.size) = true) : isName s.data.toList = (decide (1 ≤ s.size) && decide (s.size ≤ 32)) := by
  rw [List.take_of_length_le (by rw [size_list]; exact Nat.le_refl _)] at h
  rw [← size_list]
  cases hl : s.data.toList with
  | nil => rfl
  | cons c t =>
    rw [hl] at h
    simp only [okN, Bool.and_eq_true] at h
    simp only [isName, h.1, h.2, Bool.true_and, List.length_cons]
    have e1 : decide (1 ≤ t.length + 1) = true := by simp
    rw [e1, Bool.true_and]
    apply decide_eq_decide.2; omega
theorem ret_bool {a b : Bool} (h : a = b) : Ending.returned (Value.bool a) = .returned (.bool b) := by rw [h]
theorem eq_byte {b : UInt8} {n : Nat} (h : b.toNat = n) : ((b.toNat : Int) == n) = true := by rw [h]; simp
theorem ne_byte {b : UInt8} {n : Nat} (h : b.toNat ≠ n) : ((b.toNat : Int) == n) = false := by rw [beq_eq_false_iff_ne]; omega
theorem name07_any (s : ByteArray) (hs : s.size ≤ 16777216) (w : World) :
    Calls Tryz.prog 33 #[.string s] w fun e w' => e = .returned (.bool (isName s.data.toList)) ∧ w' = w := by
  obtain ⟨r, hR⟩ : ∃ r, isName s.data.toList = r := ⟨_, rfl⟩
  rw [hR]
  have HR := Lib.hid hR
  clear hR
  go_enter Tryz.func33, Tryz.ntmps33
  go_wp2
  go_loop [3] (fun i => ∃ k : Nat, i = .int .i64 k ∧ k ≤ s.size ∧ okN (s.data.toList.take k) = true) (fun i => s.size - (intOf i).toNat)
  case atStart => exact ⟨0, rfl, Nat.zero_le _, by simp [okN]⟩
  case round =>
    obtain ⟨k, rfl, hk, hn⟩ := hrel
    have HN := Lib.hid hn
    clear hn
    by_cases hlt : k < s.size
    · have hb256 : (s[k].toNat : Int) < 256 := by have := s[k].toNat_lt; omega
      have hcase : (0 ≤ s[k].toNat ∧ s[k].toNat ≤ 44) ∨ (45 ≤ s[k].toNat ∧ s[k].toNat ≤ 45) ∨ (46 ≤ s[k].toNat ∧ s[k].toNat ≤ 46) ∨ (47 ≤ s[k].toNat ∧ s[k].toNat ≤ 47) ∨ (48 ≤ s[k].toNat ∧ s[k].toNat ≤ 57) ∨ (58 ≤ s[k].toNat ∧ s[k].toNat ≤ 64) ∨ (65 ≤ s[k].toNat ∧ s[k].toNat ≤ 90) ∨ (91 ≤ s[k].toNat ∧ s[k].toNat ≤ 94) ∨ (95 ≤ s[k].toNat ∧ s[k].toNat ≤ 95) ∨ (96 ≤ s[k].toNat ∧ s[k].toNat ≤ 96) ∨ (97 ≤ s[k].toNat ∧ s[k].toNat ≤ 122) ∨ (123 ≤ s[k].toNat ∧ s[k].toNat ≤ 255) := by omega
      by_cases hk0 : k = 0
      · have k0 : ((k : Int) == 0) = true := by rw [hk0]; rfl
        rcases hcase with ⟨g1, g2⟩ | ⟨g1, g2⟩ | ⟨g1, g2⟩ | ⟨g1, g2⟩ | ⟨g1, g2⟩ | ⟨g1, g2⟩ | ⟨g1, g2⟩ | ⟨g1, g2⟩ | ⟨g1, g2⟩ | ⟨g1, g2⟩ | ⟨g1, g2⟩ | ⟨g1, g2⟩
        · have g3 : (0 : Int) ≤ s[k].toNat := by omega
          have g4 : (s[k].toNat : Int) ≤ 44 := by omega
          have e45 : ((s[k].toNat : Int) == 45) = false := ne_byte (n := 45) (by omega)
          have e95 : ((s[k].toNat : Int) == 95) = false := ne_byte (n := 95) (by omega)
          have e46 : ((s[k].toNat : Int) == 46) = false := ne_byte (n := 46) (by omega)
          have e47 : ((s[k].toNat : Int) == 47) = false := ne_byte (n := 47) (by omega)
          have HF : Hid (false = r) := Lib.hid (by rw [← HR.out]; exact (name_bad hlt (by unfold letterB; simp; omega) (.inl hk0)).symm)
          clear hk0 g1 g2
          go_wp2
          go_ret
          exact ⟨ret_bool HF.out, rfl⟩
        · have g3 : (45 : Int) ≤ s[k].toNat := by omega
          have g4 : (s[k].toNat : Int) ≤ 45 := by omega
          have e45 : ((s[k].toNat : Int) == 45) = true := eq_byte (n := 45) (by omega)
          have e95 : ((s[k].toNat : Int) == 95) = false := ne_byte (n := 95) (by omega)
          have e46 : ((s[k].toNat : Int) == 46) = false := ne_byte (n := 46) (by omega)
          have e47 : ((s[k].toNat : Int) == 47) = false := ne_byte (n := 47) (by omega)
          have HF : Hid (false = r) := Lib.hid (by rw [← HR.out]; exact (name_bad hlt (by unfold letterB; simp; omega) (.inl hk0)).symm)
          clear hk0 g1 g2
          go_wp2
          go_ret
          exact ⟨ret_bool HF.out, rfl⟩
        · have g3 : (46 : Int) ≤ s[k].toNat := by omega
          have g4 : (s[k].toNat : Int) ≤ 46 := by omega
          have e45 : ((s[k].toNat : Int) == 45) = false := ne_byte (n := 45) (by omega)
          have e95 : ((s[k].toNat : Int) == 95) = false := ne_byte (n := 95) (by omega)
          have e46 : ((s[k].toNat : Int) == 46) = true := eq_byte (n := 46) (by omega)
          have e47 : ((s[k].toNat : Int) == 47) = false := ne_byte (n := 47) (by omega)
          have HF : Hid (false = r) := Lib.hid (by rw [← HR.out]; exact (name_bad hlt (by unfold letterB; simp; omega) (.inl hk0)).symm)
          clear hk0 g1 g2
          go_wp2
          go_ret
          exact ⟨ret_bool HF.out, rfl⟩
        · have g3 : (47 : Int) ≤ s[k].toNat := by omega
          have g4 : (s[k].toNat : Int) ≤ 47 := by omega
          have e45 : ((s[k].toNat : Int) == 45) = false := ne_byte (n := 45) (by omega)
          have e95 : ((s[k].toNat : Int) == 95) = false := ne_byte (n := 95) (by omega)
          have e46 : ((s[k].toNat : Int) == 46) = false := ne_byte (n := 46) (by omega)
          have e47 : ((s[k].toNat : Int) == 47) = true := eq_byte (n := 47) (by omega)
          have HF : Hid (false = r) := Lib.hid (by rw [← HR.out]; exact (name_bad hlt (by unfold letterB; simp; omega) (.inl hk0)).symm)
          clear hk0 g1 g2
          go_wp2
          go_ret
          exact ⟨ret_bool HF.out, rfl⟩
        · have g3 : (48 : Int) ≤ s[k].toNat := by omega
          have g4 : (s[k].toNat : Int) ≤ 57 := by omega
          have e45 : ((s[k].toNat : Int) == 45) = false := ne_byte (n := 45) (by omega)
          have e95 : ((s[k].toNat : Int) == 95) = false := ne_byte (n := 95) (by omega)
          have e46 : ((s[k].toNat : Int) == 46) = false := ne_byte (n := 46) (by omega)
          have e47 : ((s[k].toNat : Int) == 47) = false := ne_byte (n := 47) (by omega)
          have HF : Hid (false = r) := Lib.hid (by rw [← HR.out]; exact (name_bad hlt (by unfold letterB; simp; omega) (.inl hk0)).symm)
          clear hk0 g1 g2
          go_wp2
          go_ret
          exact ⟨ret_bool HF.out, rfl⟩
        · have g3 : (58 : Int) ≤ s[k].toNat := by omega
          have g4 : (s[k].toNat : Int) ≤ 64 := by omega
          have e45 : ((s[k].toNat : Int) == 45) = false := ne_byte (n := 45) (by omega)
          have e95 : ((s[k].toNat : Int) == 95) = false := ne_byte (n := 95) (by omega)
          have e46 : ((s[k].toNat : Int) == 46) = false := ne_byte (n := 46) (by omega)
          have e47 : ((s[k].toNat : Int) == 47) = false := ne_byte (n := 47) (by omega)
          have d57 : ¬ ((s[k].toNat : Int) ≤ 57) := by omega
          have HF : Hid (false = r) := Lib.hid (by rw [← HR.out]; exact (name_bad hlt (by unfold letterB; simp; omega) (.inl hk0)).symm)
          clear hk0 g1 g2
          go_wp2
          go_ret
          exact ⟨ret_bool HF.out, rfl⟩
        · have g3 : (65 : Int) ≤ s[k].toNat := by omega
          have g4 : (s[k].toNat : Int) ≤ 90 := by omega
          have e45 : ((s[k].toNat : Int) == 45) = false := ne_byte (n := 45) (by omega)
          have e95 : ((s[k].toNat : Int) == 95) = false := ne_byte (n := 95) (by omega)
          have e46 : ((s[k].toNat : Int) == 46) = false := ne_byte (n := 46) (by omega)
          have e47 : ((s[k].toNat : Int) == 47) = false := ne_byte (n := 47) (by omega)
          have d57 : ¬ ((s[k].toNat : Int) ≤ 57) := by omega
          have HM := Lib.hid (okN_next hlt HN.out (.inl (by unfold letterB; simp; omega)))
          clear hk0 g1 g2
          go_wp2
          go_round
          case rel => exact ⟨k + 1, by go_num, by omega, HM.out⟩
          case measure => simp [intOf]; omega
        · have g3 : (91 : Int) ≤ s[k].toNat := by omega
          have g4 : (s[k].toNat : Int) ≤ 94 := by omega
          have e45 : ((s[k].toNat : Int) == 45) = false := ne_byte (n := 45) (by omega)
          have e95 : ((s[k].toNat : Int) == 95) = false := ne_byte (n := 95) (by omega)
          have e46 : ((s[k].toNat : Int) == 46) = false := ne_byte (n := 46) (by omega)
          have e47 : ((s[k].toNat : Int) == 47) = false := ne_byte (n := 47) (by omega)
          have d90 : ¬ ((s[k].toNat : Int) ≤ 90) := by omega
          have d57 : ¬ ((s[k].toNat : Int) ≤ 57) := by omega
          have HF : Hid (false = r) := Lib.hid (by rw [← HR.out]; exact (name_bad hlt (by unfold letterB; simp; omega) (.inl hk0)).symm)
          clear hk0 g1 g2
          go_wp2
          go_ret
          exact ⟨ret_bool HF.out, rfl⟩
        · have g3 : (95 : Int) ≤ s[k].toNat := by omega
          have g4 : (s[k].toNat : Int) ≤ 95 := by omega
          have e45 : ((s[k].toNat : Int) == 45) = false := ne_byte (n := 45) (by omega)
          have e95 : ((s[k].toNat : Int) == 95) = true := eq_byte (n := 95) (by omega)
          have e46 : ((s[k].toNat : Int) == 46) = false := ne_byte (n := 46) (by omega)
          have e47 : ((s[k].toNat : Int) == 47) = false := ne_byte (n := 47) (by omega)
          have d90 : ¬ ((s[k].toNat : Int) ≤ 90) := by omega
          have d57 : ¬ ((s[k].toNat : Int) ≤ 57) := by omega
          have HF : Hid (false = r) := Lib.hid (by rw [← HR.out]; exact (name_bad hlt (by unfold letterB; simp; omega) (.inl hk0)).symm)
          clear hk0 g1 g2
          go_wp2
          go_ret
          exact ⟨ret_bool HF.out, rfl⟩
        · have g3 : (96 : Int) ≤ s[k].toNat := by omega
          have g4 : (s[k].toNat : Int) ≤ 96 := by omega
          have e45 : ((s[k].toNat : Int) == 45) = false := ne_byte (n := 45) (by omega)
          have e95 : ((s[k].toNat : Int) == 95) = false := ne_byte (n := 95) (by omega)
          have e46 : ((s[k].toNat : Int) == 46) = false := ne_byte (n := 46) (by omega)
          have e47 : ((s[k].toNat : Int) == 47) = false := ne_byte (n := 47) (by omega)
          have d90 : ¬ ((s[k].toNat : Int) ≤ 90) := by omega
          have d57 : ¬ ((s[k].toNat : Int) ≤ 57) := by omega
          have HF : Hid (false = r) := Lib.hid (by rw [← HR.out]; exact (name_bad hlt (by unfold letterB; simp; omega) (.inl hk0)).symm)
          clear hk0 g1 g2
          go_wp2
          go_ret
          exact ⟨ret_bool HF.out, rfl⟩
        · have g3 : (97 : Int) ≤ s[k].toNat := by omega
          have g4 : (s[k].toNat : Int) ≤ 122 := by omega
          have e45 : ((s[k].toNat : Int) == 45) = false := ne_byte (n := 45) (by omega)
          have e95 : ((s[k].toNat : Int) == 95) = false := ne_byte (n := 95) (by omega)
          have e46 : ((s[k].toNat : Int) == 46) = false := ne_byte (n := 46) (by omega)
          have e47 : ((s[k].toNat : Int) == 47) = false := ne_byte (n := 47) (by omega)
          have d90 : ¬ ((s[k].toNat : Int) ≤ 90) := by omega
          have d57 : ¬ ((s[k].toNat : Int) ≤ 57) := by omega
          have HM := Lib.hid (okN_next hlt HN.out (.inl (by unfold letterB; simp; omega)))
          clear hk0 g1 g2
          go_wp2
          go_round
          case rel => exact ⟨k + 1, by go_num, by omega, HM.out⟩
          case measure => simp [intOf]; omega
        · have g3 : (123 : Int) ≤ s[k].toNat := by omega
          have g4 : (s[k].toNat : Int) ≤ 255 := by omega
          have e45 : ((s[k].toNat : Int) == 45) = false := ne_byte (n := 45) (by omega)
          have e95 : ((s[k].toNat : Int) == 95) = false := ne_byte (n := 95) (by omega)
          have e46 : ((s[k].toNat : Int) == 46) = false := ne_byte (n := 46) (by omega)
          have e47 : ((s[k].toNat : Int) == 47) = false := ne_byte (n := 47) (by omega)
          have d122 : ¬ ((s[k].toNat : Int) ≤ 122) := by omega
          have d90 : ¬ ((s[k].toNat : Int) ≤ 90) := by omega
          have d57 : ¬ ((s[k].toNat : Int) ≤ 57) := by omega
          have HF : Hid (false = r) := Lib.hid (by rw [← HR.out]; exact (name_bad hlt (by unfold letterB; simp; omega) (.inl hk0)).symm)
          clear hk0 g1 g2
          go_wp2
          go_ret
          exact ⟨ret_bool HF.out, rfl⟩
      · have k0 : ((k : Int) == 0) = false := by rw [beq_eq_false_iff_ne]; omega
        rcases hcase with ⟨g1, g2⟩ | ⟨g1, g2⟩ | ⟨g1, g2⟩ | ⟨g1, g2⟩ | ⟨g1, g2⟩ | ⟨g1, g2⟩ | ⟨g1, g2⟩ | ⟨g1, g2⟩ | ⟨g1, g2⟩ | ⟨g1, g2⟩ | ⟨g1, g2⟩ | ⟨g1, g2⟩
        · have g3 : (0 : Int) ≤ s[k].toNat := by omega
          have g4 : (s[k].toNat : Int) ≤ 44 := by omega
          have e45 : ((s[k].toNat : Int) == 45) = false := ne_byte (n := 45) (by omega)
          have e95 : ((s[k].toNat : Int) == 95) = false := ne_byte (n := 95) (by omega)
          have e46 : ((s[k].toNat : Int) == 46) = false := ne_byte (n := 46) (by omega)
          have e47 : ((s[k].toNat : Int) == 47) = false := ne_byte (n := 47) (by omega)
          have HF : Hid (false = r) := Lib.hid (by rw [← HR.out]; exact (name_bad hlt (by unfold letterB; simp; omega) (.inr (by unfold tailB letterB; simp; omega))).symm)
          clear hk0 g1 g2
          go_wp2
          go_ret
          exact ⟨ret_bool HF.out, rfl⟩
        · have g3 : (45 : Int) ≤ s[k].toNat := by omega
          have g4 : (s[k].toNat : Int) ≤ 45 := by omega
          have e45 : ((s[k].toNat : Int) == 45) = true := eq_byte (n := 45) (by omega)
          have e95 : ((s[k].toNat : Int) == 95) = false := ne_byte (n := 95) (by omega)
          have e46 : ((s[k].toNat : Int) == 46) = false := ne_byte (n := 46) (by omega)
          have e47 : ((s[k].toNat : Int) == 47) = false := ne_byte (n := 47) (by omega)
          have HM := Lib.hid (okN_next hlt HN.out (.inr ⟨hk0, by unfold tailB letterB; simp; omega⟩))
          clear hk0 g1 g2
          go_wp2
          go_round
          case rel => exact ⟨k + 1, by go_num, by omega, HM.out⟩
          case measure => simp [intOf]; omega
        · have g3 : (46 : Int) ≤ s[k].toNat := by omega
          have g4 : (s[k].toNat : Int) ≤ 46 := by omega
          have e45 : ((s[k].toNat : Int) == 45) = false := ne_byte (n := 45) (by omega)
          have e95 : ((s[k].toNat : Int) == 95) = false := ne_byte (n := 95) (by omega)
          have e46 : ((s[k].toNat : Int) == 46) = true := eq_byte (n := 46) (by omega)
          have e47 : ((s[k].toNat : Int) == 47) = false := ne_byte (n := 47) (by omega)
          have HM := Lib.hid (okN_next hlt HN.out (.inr ⟨hk0, by unfold tailB letterB; simp; omega⟩))
          clear hk0 g1 g2
          go_wp2
          go_round
          case rel => exact ⟨k + 1, by go_num, by omega, HM.out⟩
          case measure => simp [intOf]; omega
        · have g3 : (47 : Int) ≤ s[k].toNat := by omega
          have g4 : (s[k].toNat : Int) ≤ 47 := by omega
          have e45 : ((s[k].toNat : Int) == 45) = false := ne_byte (n := 45) (by omega)
          have e95 : ((s[k].toNat : Int) == 95) = false := ne_byte (n := 95) (by omega)
          have e46 : ((s[k].toNat : Int) == 46) = false := ne_byte (n := 46) (by omega)
          have e47 : ((s[k].toNat : Int) == 47) = true := eq_byte (n := 47) (by omega)
          have HM := Lib.hid (okN_next hlt HN.out (.inr ⟨hk0, by unfold tailB letterB; simp; omega⟩))
          clear hk0 g1 g2
          go_wp2
          go_round
          case rel => exact ⟨k + 1, by go_num, by omega, HM.out⟩
          case measure => simp [intOf]; omega
        · have g3 : (48 : Int) ≤ s[k].toNat := by omega
          have g4 : (s[k].toNat : Int) ≤ 57 := by omega
          have e45 : ((s[k].toNat : Int) == 45) = false := ne_byte (n := 45) (by omega)
          have e95 : ((s[k].toNat : Int) == 95) = false := ne_byte (n := 95) (by omega)
          have e46 : ((s[k].toNat : Int) == 46) = false := ne_byte (n := 46) (by omega)
          have e47 : ((s[k].toNat : Int) == 47) = false := ne_byte (n := 47) (by omega)
          have HM := Lib.hid (okN_next hlt HN.out (.inr ⟨hk0, by unfold tailB letterB; simp; omega⟩))
          clear hk0 g1 g2
          go_wp2
          go_round
          case rel => exact ⟨k + 1, by go_num, by omega, HM.out⟩
          case measure => simp [intOf]; omega
        · have g3 : (58 : Int) ≤ s[k].toNat := by omega
          have g4 : (s[k].toNat : Int) ≤ 64 := by omega
          have e45 : ((s[k].toNat : Int) == 45) = false := ne_byte (n := 45) (by omega)
          have e95 : ((s[k].toNat : Int) == 95) = false := ne_byte (n := 95) (by omega)
          have e46 : ((s[k].toNat : Int) == 46) = false := ne_byte (n := 46) (by omega)
          have e47 : ((s[k].toNat : Int) == 47) = false := ne_byte (n := 47) (by omega)
          have d57 : ¬ ((s[k].toNat : Int) ≤ 57) := by omega
          have HF : Hid (false = r) := Lib.hid (by rw [← HR.out]; exact (name_bad hlt (by unfold letterB; simp; omega) (.inr (by unfold tailB letterB; simp; omega))).symm)
          clear hk0 g1 g2
          go_wp2
          go_ret
          exact ⟨ret_bool HF.out, rfl⟩
        · have g3 : (65 : Int) ≤ s[k].toNat := by omega
          have g4 : (s[k].toNat : Int) ≤ 90 := by omega
          have e45 : ((s[k].toNat : Int) == 45) = false := ne_byte (n := 45) (by omega)
          have e95 : ((s[k].toNat : Int) == 95) = false := ne_byte (n := 95) (by omega)
          have e46 : ((s[k].toNat : Int) == 46) = false := ne_byte (n := 46) (by omega)
          have e47 : ((s[k].toNat : Int) == 47) = false := ne_byte (n := 47) (by omega)
          have d57 : ¬ ((s[k].toNat : Int) ≤ 57) := by omega
          have HM := Lib.hid (okN_next hlt HN.out (.inl (by unfold letterB; simp; omega)))
          clear hk0 g1 g2
          go_wp2
          go_round
          case rel => exact ⟨k + 1, by go_num, by omega, HM.out⟩
          case measure => simp [intOf]; omega
        · have g3 : (91 : Int) ≤ s[k].toNat := by omega
          have g4 : (s[k].toNat : Int) ≤ 94 := by omega
          have e45 : ((s[k].toNat : Int) == 45) = false := ne_byte (n := 45) (by omega)
          have e95 : ((s[k].toNat : Int) == 95) = false := ne_byte (n := 95) (by omega)
          have e46 : ((s[k].toNat : Int) == 46) = false := ne_byte (n := 46) (by omega)
          have e47 : ((s[k].toNat : Int) == 47) = false := ne_byte (n := 47) (by omega)
          have d90 : ¬ ((s[k].toNat : Int) ≤ 90) := by omega
          have d57 : ¬ ((s[k].toNat : Int) ≤ 57) := by omega
          have HF : Hid (false = r) := Lib.hid (by rw [← HR.out]; exact (name_bad hlt (by unfold letterB; simp; omega) (.inr (by unfold tailB letterB; simp; omega))).symm)
          clear hk0 g1 g2
          go_wp2
          go_ret
          exact ⟨ret_bool HF.out, rfl⟩
        · have g3 : (95 : Int) ≤ s[k].toNat := by omega
          have g4 : (s[k].toNat : Int) ≤ 95 := by omega
          have e45 : ((s[k].toNat : Int) == 45) = false := ne_byte (n := 45) (by omega)
          have e95 : ((s[k].toNat : Int) == 95) = true := eq_byte (n := 95) (by omega)
          have e46 : ((s[k].toNat : Int) == 46) = false := ne_byte (n := 46) (by omega)
          have e47 : ((s[k].toNat : Int) == 47) = false := ne_byte (n := 47) (by omega)
          have d90 : ¬ ((s[k].toNat : Int) ≤ 90) := by omega
          have d57 : ¬ ((s[k].toNat : Int) ≤ 57) := by omega
          have HM := Lib.hid (okN_next hlt HN.out (.inr ⟨hk0, by unfold tailB letterB; simp; omega⟩))
          clear hk0 g1 g2
          go_wp2
          go_round
          case rel => exact ⟨k + 1, by go_num, by omega, HM.out⟩
          case measure => simp [intOf]; omega
        · have g3 : (96 : Int) ≤ s[k].toNat := by omega
          have g4 : (s[k].toNat : Int) ≤ 96 := by omega
          have e45 : ((s[k].toNat : Int) == 45) = false := ne_byte (n := 45) (by omega)
          have e95 : ((s[k].toNat : Int) == 95) = false := ne_byte (n := 95) (by omega)
          have e46 : ((s[k].toNat : Int) == 46) = false := ne_byte (n := 46) (by omega)
          have e47 : ((s[k].toNat : Int) == 47) = false := ne_byte (n := 47) (by omega)
          have d90 : ¬ ((s[k].toNat : Int) ≤ 90) := by omega
          have d57 : ¬ ((s[k].toNat : Int) ≤ 57) := by omega
          have HF : Hid (false = r) := Lib.hid (by rw [← HR.out]; exact (name_bad hlt (by unfold letterB; simp; omega) (.inr (by unfold tailB letterB; simp; omega))).symm)
          clear hk0 g1 g2
          go_wp2
          go_ret
          exact ⟨ret_bool HF.out, rfl⟩
        · have g3 : (97 : Int) ≤ s[k].toNat := by omega
          have g4 : (s[k].toNat : Int) ≤ 122 := by omega
          have e45 : ((s[k].toNat : Int) == 45) = false := ne_byte (n := 45) (by omega)
          have e95 : ((s[k].toNat : Int) == 95) = false := ne_byte (n := 95) (by omega)
          have e46 : ((s[k].toNat : Int) == 46) = false := ne_byte (n := 46) (by omega)
          have e47 : ((s[k].toNat : Int) == 47) = false := ne_byte (n := 47) (by omega)
          have d90 : ¬ ((s[k].toNat : Int) ≤ 90) := by omega
          have d57 : ¬ ((s[k].toNat : Int) ≤ 57) := by omega
          have HM := Lib.hid (okN_next hlt HN.out (.inl (by unfold letterB; simp; omega)))
          clear hk0 g1 g2
          go_wp2
          go_round
          case rel => exact ⟨k + 1, by go_num, by omega, HM.out⟩
          case measure => simp [intOf]; omega
        · have g3 : (123 : Int) ≤ s[k].toNat := by omega
          have g4 : (s[k].toNat : Int) ≤ 255 := by omega
          have e45 : ((s[k].toNat : Int) == 45) = false := ne_byte (n := 45) (by omega)
          have e95 : ((s[k].toNat : Int) == 95) = false := ne_byte (n := 95) (by omega)
          have e46 : ((s[k].toNat : Int) == 46) = false := ne_byte (n := 46) (by omega)
          have e47 : ((s[k].toNat : Int) == 47) = false := ne_byte (n := 47) (by omega)
          have d122 : ¬ ((s[k].toNat : Int) ≤ 122) := by omega
          have d90 : ¬ ((s[k].toNat : Int) ≤ 90) := by omega
          have d57 : ¬ ((s[k].toNat : Int) ≤ 57) := by omega
          have HF : Hid (false = r) := Lib.hid (by rw [← HR.out]; exact (name_bad hlt (by unfold letterB; simp; omega) (.inr (by unfold tailB letterB; simp; omega))).symm)
          clear hk0 g1 g2
          go_wp2
          go_ret
          exact ⟨ret_bool HF.out, rfl⟩
    · obtain rfl : k = s.size := by omega
      have he := name_end HN.out
      rw [HR.out] at he
      have HE := Lib.hid he
      clear he
      by_cases h1 : 1 ≤ s.size
      · have HF : Hid (decide ((s.size : Int) ≤ 32) = r) := Lib.hid (by
          rw [HE.out, decide_eq_true h1, Bool.true_and]
          apply decide_eq_decide.2; omega)
        go_wp2
        go_ret
        exact ⟨ret_bool HF.out, rfl⟩
      · have HF : Hid (false = r) := Lib.hid (by rw [HE.out]; simp; omega)
        go_wp2
        go_ret
        exact ⟨ret_bool HF.out, rfl⟩
end Go.Proofs.YtopccnoinngmbaaGreatDoor
