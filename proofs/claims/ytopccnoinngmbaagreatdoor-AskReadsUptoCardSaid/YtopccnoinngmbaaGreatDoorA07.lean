/-
  Addresses and prefixes written and checked, as the reference does it.
  Prefixes read, as the reference does it.
-/
import Derived.Test.YtopccnoinngmbaaGreatDoorA06

/- Addresses and prefixes written and checked, as the reference does it. -/
namespace Go.Proofs.YtopccnoinngmbaaGreatDoor
open Go.RowKit
set_option maxRecDepth 100000
set_option maxHeartbeats 16000000
set_option linter.unusedVariables false
set_option linter.unusedSimpArgs false

theorem textA_eq {a : Int} : textA a = Lib.itoa (a / 16777216) ++ 46 :: (Lib.itoa (a / 65536 % 256) ++ 46 :: (Lib.itoa (a / 256 % 256) ++ 46 :: Lib.itoa (a % 256))) := rfl
theorem text01_any (a : Int) (h0 : 0 ≤ a) (h1 : a < 4294967296) (w : World) :
    Calls Tryz.prog 48 #[.int .u32 a] w fun e w' => e = .returned (.string ⟨(textA a).toArray⟩) ∧ Below w.heap.size w w' := by
  have l0 := itoa_len (n := a / 16777216) (by omega) (by omega)
  have l1 := itoa_len (n := a / 65536 % 256) (by omega) (by omega)
  have l2 := itoa_len (n := a / 256 % 256) (by omega) (by omega)
  have l3 := itoa_len (n := a % 256) (by omega) (by omega)
  have n0 : ¬ 9223372036854775807 < (Lib.itoa (a / 16777216)).length + 1 := by omega
  have n1 : ¬ 9223372036854775807 < (Lib.itoa (a / 16777216)).length + 1 + (Lib.itoa (a / 65536 % 256)).length := by omega
  have n2 : ¬ 9223372036854775807 < (Lib.itoa (a / 16777216)).length + 1 + (Lib.itoa (a / 65536 % 256)).length + 1 := by omega
  have n3 : ¬ 9223372036854775807 < (Lib.itoa (a / 16777216)).length + 1 + (Lib.itoa (a / 65536 % 256)).length + 1 + (Lib.itoa (a / 256 % 256)).length := by omega
  have n4 : ¬ 9223372036854775807 < (Lib.itoa (a / 16777216)).length + 1 + (Lib.itoa (a / 65536 % 256)).length + 1 + (Lib.itoa (a / 256 % 256)).length + 1 := by omega
  have n5 : ¬ 9223372036854775807 < (Lib.itoa (a / 16777216)).length + 1 + (Lib.itoa (a / 65536 % 256)).length + 1 + (Lib.itoa (a / 256 % 256)).length + 1 + (Lib.itoa (a % 256)).length := by omega
  have hB := Below.refl w.heap.size w
  go_enter Tryz.func48, Tryz.ntmps48
  go_wp2_with (go_at_call 45; (with_reducible refine (number01_any _ (by omega) (by omega)).mono ?_); rintro e w1 ⟨rfl, hb⟩; have hB := below_seq hB hb; clear hb)
  go_ret
  exact ⟨ret_str (by rw [textA_eq]; simp), hB⟩
theorem prefixText01_any (a b : Int) (h0 : 0 ≤ a) (h1 : a < 4294967296) (b0 : -9223372036854775808 ≤ b) (b1 : b ≤ 9223372036854775807) (w : World) :
    Calls Tryz.prog 70 #[.agg #[.int .u32 a, .int .i64 b]] w fun e w' => e = .returned (.string ⟨(textP a b).toArray⟩) ∧ Below w.heap.size w w' := by
  go_enter Tryz.func70, Tryz.ntmps70
  go_wp2
  have l1 := textA_len h0 h1
  have l2 := itoa_len b0 b1
  have l3 : ¬ 9223372036854775807 < (textA a).length + 1 := by omega
  have l4 : ¬ 9223372036854775807 < (textA a).length + 1 + (Lib.itoa b).length := by omega
  have s2 : Below (w.alloc (.cells #[.int .u32 a, .int .i64 b] 25)).heap.size (w.alloc (.cells #[.int .u32 a, .int .i64 b] 25)) (w.alloc (.cells #[.int .u32 a, .int .i64 b] 25)).drew := (Below.refl _ _).drew
  have s0 := (two_of (kept_new s2)).1
  have s1 := (two_of (kept_new s2)).2.1
  go_region_held3 (fun w' => w'.cell? ⟨w.heap.size, 0, none⟩ = some (.int .u32 a) ∧ w'.cell? ⟨w.heap.size, 1, none⟩ = some (.int .i64 b) ∧ Below (w.alloc (.cells #[.int .u32 a, .int .i64 b] 25)).heap.size (w.alloc (.cells #[.int .u32 a, .int .i64 b] 25)) w')
    (first | exact ⟨s0, s1, s2⟩ | (go_split_ands; (try dsimp only); (repeat' apply And.intro); all_goals (have hq : Below (w.alloc (.cells #[.int .u32 a, .int .i64 b] 25)).heap.size (w.alloc (.cells #[.int .u32 a, .int .i64 b] 25)) _ := below_seq (by assumption) hb1; first | exact (two_of (kept_new hq)).1 | exact (two_of (kept_new hq)).2.1 | exact hq)) | go_keep)
    (first | (go_at_call 48; refine (text01_any a h0 h1 _).mono ?_; rintro e w1 ⟨rfl, hb1⟩) | (go_at_call 45; refine (number01_any b b0 b1).mono ?_; rintro e w1 ⟨rfl, hb1⟩))
  go_wp2
  go_ret
  go_split_ands
  exact ⟨ret_str (by simp [textP]), below_seq (below_new w _) (by assumption)⟩
theorem size_any (n : Int) (h0 : 0 ≤ n) (h1 : n ≤ 32) (w : World) :
    Calls Tryz.prog 104 #[.int .i64 n] w fun e w' => e = .returned (.int .u64 (2 ^ (32 - n.toNat))) ∧ w' = w := by
  obtain ⟨m, rfl⟩ : ∃ m : Nat, n = m := ⟨n.toNat, by omega⟩
  go_enter Tryz.func104, Tryz.ntmps104
  go_wp2
  go_loop [3, 4] (fun o i => ∃ (j p : Nat), i = .int .i64 j ∧ o = .int .u64 p ∧ m ≤ j ∧ j ≤ 32 ∧ p = 2 ^ (j - m) ∧ p ≤ 4294967296) (fun _ i => 32 - (intOf i).toNat)
  case atStart => exact ⟨m, 1, rfl, rfl, Nat.le_refl _, by omega, by simp, by decide⟩
  case round =>
    obtain ⟨j, p, rfl, rfl, hj0, hj1, hp, hp1⟩ := hrel
    have HP := Lib.hid hp
    clear hp
    by_cases hlt : j < 32
    · go_wp2
      go_round
      case rel =>
        have hq : 2 * p = 2 ^ (j + 1 - m) := by rw [HP.out, show j + 1 - m = (j - m) + 1 by omega, Nat.pow_succ]; omega
        have hle : 2 ^ (j + 1 - m) ≤ 2 ^ 32 := Nat.pow_le_pow_right (by decide) (by omega)
        exact ⟨j + 1, 2 * p, by go_num, by go_num, by omega, by omega, hq, by omega⟩
      case measure => simp [intOf]; omega
    · obtain rfl : j = 32 := by omega
      go_wp2
      go_ret
      exact ⟨ret_int (by rw [HP.out]; simp), rfl⟩
theorem check01_any (a b : Int) (h0 : 0 ≤ a) (h1 : a < 4294967296) (w : World) :
    Calls Tryz.prog 86 #[.agg #[.int .u32 a, .int .i64 b]] w fun e w' => e = .returned (.int .i64 (checkS a b)) ∧ Below w.heap.size w w' := by
  by_cases hb : b < 0 ∨ 32 < b
  · have hc : checkS a b = 1 := if_pos hb
    rw [hc]
    clear hc
    rcases hb with hb | hb
    · go_enter Tryz.func86, Tryz.ntmps86
      go_wp2
      go_ret
      exact ⟨rfl, (Below.refl _ w).alloc (Nat.le_refl _) _⟩
    · have hb2 : ¬ b < 0 := by omega
      go_enter Tryz.func86, Tryz.ntmps86
      go_wp2
      go_ret
      exact ⟨rfl, (Below.refl _ w).alloc (Nat.le_refl _) _⟩
  · have hb1 : 0 ≤ b := by omega
    have hb2 : b ≤ 32 := by omega
    have hc : checkS a b = if a % 2 ^ (32 - b.toNat) = 0 then 0 else 10 := if_neg hb
    have hM0 : (0 : Int) < 2 ^ (32 - b.toNat) := Int.pow_pos (by decide)
    have hM1 : (2 : Int) ^ (32 - b.toNat) ≤ 4294967296 := by
      have := Nat.pow_le_pow_right (n := 2) (by decide) (show 32 - b.toNat ≤ 32 by omega)
      rw [show (2 : Int) ^ (32 - b.toNat) = ((2 ^ (32 - b.toNat) : Nat) : Int) by simp]
      omega
    have hbeh : ∀ w, Calls Tryz.prog 104 #[.int .i64 b] w fun e w' => e = .returned (.int .u64 (2 ^ (32 - b.toNat))) ∧ w' = w := fun w => size_any b hb1 hb2 w
    generalize (2 : Int) ^ (32 - b.toNat) = M at *
    have hM2 : M ≤ 4294967296 := hM1
    have hM3 : ¬ M = 0 := by omega
    have hM4 : (M == 0) = false := by simpa using hM3
    clear hb hM1
    by_cases h : a % M = 0
    · rw [hc, if_pos h]
      have hne : (a % M == 0) = true := by simpa using h
      have hne : (a % M != 0) = false := by simpa using h
      clear hc
      go_enter Tryz.func86, Tryz.ntmps86
      go_wp2
      go_quiet ((go_at_call 104; exact Calls.quiet_of_same (hbeh _)))
      go_wp2
      go_ret
      exact ⟨rfl, below_drewN (below_new w _) _⟩
    · rw [hc, if_neg h]
      have hne : (a % M == 0) = false := by simpa using h
      have hne : (a % M != 0) = true := by simpa using h
      clear hc
      go_enter Tryz.func86, Tryz.ntmps86
      go_wp2
      go_quiet ((go_at_call 104; exact Calls.quiet_of_same (hbeh _)))
      go_wp2
      go_ret
      exact ⟨rfl, below_drewN (below_new w _) _⟩
end Go.Proofs.YtopccnoinngmbaaGreatDoor

/- Prefixes read, as the reference does it. -/
namespace Go.Proofs.YtopccnoinngmbaaGreatDoor
open Go.RowKit
set_option maxRecDepth 100000
set_option maxHeartbeats 16000000
set_option linter.unusedVariables false
set_option linter.unusedSimpArgs false

theorem cutA_hit {c : UInt8} {s : ByteArray} {k : Nat} (hk : k < s.size) (hb : s[k] = c) (hn : c ∉ s.data.toList.take k) : cutA c s = (s.extract 0 k, s.extract (k + 1) s.size, true) := by
  have hd := drop_hit (s := s) (f := 0) (k := k) (Nat.zero_le _) hk
  simp only [List.drop_zero, Nat.sub_zero] at hd
  unfold cutA
  rw [hd, hb, cut_app _ hn, ext_mk, ext_mk]
  have : (s.data.toList.drop (k + 1)).take (s.size - (k + 1)) = s.data.toList.drop (k + 1) := List.take_of_length_le (by rw [List.length_drop, size_list]; exact Nat.le_refl _)
  rw [this]
  simp [mkB]
theorem cutA_miss {c : UInt8} {s : ByteArray} (hn : c ∉ s.data.toList) : cutA c s = (s, ⟨#[]⟩, false) := by
  unfold cutA
  rw [cut_none hn]
theorem not_next {c : UInt8} {s : ByteArray} {k : Nat} (hk : k < s.size) (hb : s[k] ≠ c) (hn : c ∉ s.data.toList.take k) : c ∉ s.data.toList.take (k + 1) := by
  rw [take_next s k hk, List.mem_append]
  rintro (e | e)
  · exact hn e
  · exact hb (List.mem_singleton.1 e).symm
theorem ext_size (s : ByteArray) (a b : Nat) (h : b ≤ s.size) : (s.extract a b).size ≤ s.size := by
  rw [ByteArray.size_extract]; omega
theorem parse01_some {s : ByteArray} {a : Int} (h : pAddr s = some a) (hs : s.size ≤ 16777216) (w : World) :
    Calls Tryz.prog 34 #[.string s] w fun e w' => e = .returned (.tuple #[.int .u32 a, .int .i64 0]) ∧ Below w.heap.size w w' := by
  have := parse01_any s hs w
  rw [h] at this
  exact this
theorem parse01_none {s : ByteArray} (h : pAddr s = none) (hs : s.size ≤ 16777216) (w : World) :
    Calls Tryz.prog 34 #[.string s] w fun e w' => e = .returned (.tuple #[.int .u32 0, .int .i64 4]) ∧ Below w.heap.size w w' := by
  have := parse01_any s hs w
  rw [h] at this
  exact this
theorem read_as {s : ByteArray} {most r : Int} (h : (num s most).getD (-1) = r) (hm : most < 100000) (hs : s.size ≤ 16777216) (w : World) : Calls Tryz.prog 31 #[.string s, .int .i64 most] w fun e w' => e = .returned (.int .i64 r) ∧ w' = w := by
  subst h; exact read_any s most hm hs w
theorem byte_ne {b : UInt8} {n : Nat} (hn : n < 256) (h : b ≠ UInt8.ofNat n) : ((b.toNat : Int) == n) = false := by
  rw [beq_eq_false_iff_ne]; intro e; apply h; apply UInt8.toNat_inj.1; rw [UInt8.toNat_ofNat']; omega
theorem parsePrefix01_any (s : ByteArray) (hs : s.size ≤ 16777216) (w : World) :
    Calls Tryz.prog 60 #[.string s] w fun e w' => PrefixPost (pPrefix s) e ∧ Below w.heap.size w w' := by
  obtain ⟨c0, c1, f0, f1⟩ := two_of (heap_alloc_new w (.cells #[.int .u32 0, .int .i64 0] 25))
  have hW := below_new w (.cells #[.int .u32 0, .int .i64 0] 25)
  have bad : PrefixPost none (.returned (.tuple #[.agg #[.int .u32 0, .int .i64 0], .int .i64 4])) := prefixPost_none (by decide)
  have bad2 : PrefixPost none (.returned (.tuple #[.agg #[.int .u32 0, .int .i64 0], .int .i64 10])) := prefixPost_none (by decide)
  have fin : ∀ {w1 : World}, Below (w.alloc (.cells #[.int .u32 0, .int .i64 0] 25)).heap.size (w.alloc (.cells #[.int .u32 0, .int .i64 0] 25)) w1 → ∀ u v, Below w.heap.size w ((w1.setCell ⟨w.heap.size, 0, none⟩ u).setCell ⟨w.heap.size, 1, none⟩ v) := fun h u v =>
    ((below_seq (below_new w _) h).setCell (Nat.le_refl _) _).setCell (Nat.le_refl _) _
  obtain ⟨P, hP⟩ : ∃ P, pPrefix s = P := ⟨_, rfl⟩
  rw [hP]
  have HP := Lib.hid hP
  clear hP
  go_enter Tryz.func60, Tryz.ntmps60
  go_wp2
  go_loop [4] (fun i => ∃ k : Nat, i = .int .i64 k ∧ k ≤ s.size ∧ 47 ∉ s.data.toList.take k) (fun i => s.size - (intOf i).toNat)
  case atStart => exact ⟨0, rfl, Nat.zero_le _, by simp⟩
  case round =>
    obtain ⟨k, rfl, hk, hn⟩ := hrel
    have HN := Lib.hid hn
    clear hn
    by_cases hlt : k < s.size
    · by_cases hb : s[k] = 47
      · have hb1 : ((s[k].toNat : Int) == 47) = true := by rw [hb]; rfl
        have HC := Lib.hid (cutA_hit hlt hb HN.out)
        have hs1 := ext_size s 0 k hk
        have hs2 := ext_size s (k + 1) s.size (Nat.le_refl _)
        clear hb
        cases ha : pAddr (s.extract 0 k) with
        | none =>
          have hp : P = none := by rw [← HP.out]; simp [pPrefix, HC.out, ha]
          subst hp
          have HA := Lib.hid ha
          clear ha
          go_wp2_with (first | (go_at_call 34; refine (parse01_none HA.out (by omega) _).mono ?_; rintro e w2 ⟨rfl, hb2⟩; obtain ⟨c0, c1, f0, f1⟩ := two_of (kept_new hb2)) | (go_at_call 31; refine (read_any (s.extract (k + 1) s.size) 32 (by decide) (by omega) _).mono ?_; rintro e w1 ⟨rfl, rfl⟩))
          exact bodyPost_ret (v := .tuple #[.agg #[.int .u32 0, .int .i64 0], .int .i64 4]) (by simp [results, Tryz.results60, go_sem, c0, c1]) rfl ⟨bad, fin hb2 _ _⟩
        | some a =>
          obtain ⟨la, ua⟩ := pAddr_bounds ha
          have HA := Lib.hid ha
          cases hnm : num (s.extract (k + 1) s.size) 32 with
          | none =>
            have hp : P = none := by rw [← HP.out]; simp [pPrefix, HC.out, ha, hnm]
            subst hp
            have HB := Lib.hid (show (num (s.extract (k + 1) s.size) 32).getD (-1) = -1 by rw [hnm]; rfl)
            clear ha hnm
            go_wp2_with (first | (go_at_call 34; refine (parse01_some HA.out (by omega) _).mono ?_; rintro e w2 ⟨rfl, hb2⟩; obtain ⟨c0, c1, f0, f1⟩ := two_of (kept_new hb2)) | (go_at_call 31; refine (read_as HB.out (by decide) (by omega) _).mono ?_; rintro e w1 ⟨rfl, rfl⟩))
            exact bodyPost_ret (v := .tuple #[.agg #[.int .u32 0, .int .i64 0], .int .i64 4]) (by simp [results, Tryz.results60, go_sem, c0, c1]) rfl ⟨bad, fin hb2 _ _⟩
          | some b =>
            obtain ⟨lb, ub⟩ := num_bounds hnm
            have hp : P = if checkS a b = 0 then some (a, b) else none := by rw [← HP.out]; simp [pPrefix, HC.out, ha, hnm]
            have HB := Lib.hid (show (num (s.extract (k + 1) s.size) 32).getD (-1) = b by rw [hnm]; rfl)
            clear ha hnm
            by_cases hk0 : checkS a b = 0
            · have hch : ∀ w, Calls Tryz.prog 86 #[.agg #[.int .u32 a, .int .i64 b]] w fun e w' => e = .returned (.int .i64 0) ∧ Below w.heap.size w w' := fun w => hk0 ▸ check01_any a b la ua w
              have hpost : PrefixPost P (.returned (.tuple #[.agg #[.int .u32 a, .int .i64 b], .int .i64 0])) := by rw [hp, if_pos hk0]; exact prefixPost_some a b
              clear hk0 hp
              go_wp2_with (first | (go_at_call 34; refine (parse01_some HA.out (by omega) _).mono ?_; rintro e w2 ⟨rfl, hb2⟩) | (go_at_call 31; refine (read_as HB.out (by decide) (by omega) _).mono ?_; rintro e w1 ⟨rfl, rfl⟩) | (go_at_call 86; refine (hch _).mono ?_; rintro e w6 ⟨rfl, hb6⟩; obtain ⟨p0, p1, -, -⟩ := two_of (kept_new hb6); have hb7 := below_seq (below_seq hb2 (below_new _ _)) hb6; obtain ⟨c0, c1, f0, f1⟩ := two_of (kept_new hb7)))
              exact bodyPost_ret (v := .tuple #[.agg #[.int .u32 a, .int .i64 b], .int .i64 0]) (by simp [results, Tryz.results60, go_sem, c0, c1]) rfl ⟨hpost, fin hb7 _ _⟩
            · have hch := check01_any a b la ua
              have hpost : PrefixPost P (.returned (.tuple #[.agg #[.int .u32 0, .int .i64 0], .int .i64 10])) := by rw [hp, if_neg hk0]; exact bad2
              have hr2 : (checkS a b == 0) = false := by simpa using hk0
              have hr : (checkS a b != 0) = true := by simpa using hk0
              clear hk0 hp
              generalize checkS a b = r at hch hr hr2
              go_wp2_with (first | (go_at_call 34; refine (parse01_some HA.out (by omega) _).mono ?_; rintro e w2 ⟨rfl, hb2⟩) | (go_at_call 31; refine (read_as HB.out (by decide) (by omega) _).mono ?_; rintro e w1 ⟨rfl, rfl⟩) | (go_at_call 86; refine (hch _).mono ?_; rintro e w6 ⟨rfl, hb6⟩; obtain ⟨p0, p1, -, -⟩ := two_of (kept_new hb6); have hb7 := below_seq (below_seq hb2 (below_new _ _)) hb6; obtain ⟨c0, c1, f0, f1⟩ := two_of (kept_new hb7)))
              exact bodyPost_ret (v := .tuple #[.agg #[.int .u32 0, .int .i64 0], .int .i64 10]) (by simp [results, Tryz.results60, go_sem, c0, c1]) rfl ⟨hpost, fin hb7 _ _⟩
      · have hb1 : ((s[k].toNat : Int) == 47) = false := byte_ne (n := 47) (by decide) hb
        have HM := Lib.hid (not_next hlt hb HN.out)
        clear hb
        go_wp2
        go_round
        case rel => exact ⟨k + 1, by go_num, by omega, HM.out⟩
        case measure => simp [intOf]; omega
    · obtain rfl : k = s.size := by omega
      have hp : P = none := by
        rw [← HP.out]
        have := HN.out
        rw [List.take_of_length_le (by rw [size_list]; exact Nat.le_refl _)] at this
        simp [pPrefix, cutA_miss this]
      subst hp
      go_wp2
      exact bodyPost_ret (v := .tuple #[.agg #[.int .u32 0, .int .i64 0], .int .i64 4]) (by simp [results, Tryz.results60, go_sem, c0, c1]) rfl ⟨bad, hW⟩
end Go.Proofs.YtopccnoinngmbaaGreatDoor
